/- The library's stable sort at symbols: symMerge where one part has one element. -/
import Derived.Test.YtekilcnkinmakaaDoorStbB
namespace Go.Proofs.YtekilcnkinmakaaDoor
open Go.RowKit Go.Deco
set_option linter.unusedSimpArgs false
set_option linter.unusedVariables false

set_option maxRecDepth 100000 in
set_option maxHeartbeats 4000000 in
theorem symg_l (wo w : World) (g n c : Nat) (P Y Q : List Sy) (x : Sy) (hx : Ext wo w) (ho : OwnS symR w wo.heap.size 27 All (.slice (some ⟨g, 0, none⟩) n c) (P ++ (insP Y x 0 ++ Q))) (hY : Srt ltS Y) (hn : n ≤ 1000000) (a m b : Nat) (ha : a = P.length) (hm : m = P.length + 1) (hb : b = P.length + 1 + Y.length) :
    Calls Tryd.prog 63 #[.slice (some ⟨g, 0, none⟩) n c, .int .i64 a, .int .i64 m, .int .i64 b, .func (.func 37) #[] #[]] w (RowS wo g n c (P ++ (mrg ltS [x] Y ++ Q))) := by
  have hg := call_syord
  have hln := ho.len
  simp only [List.length_append, insP_len] at hln
  have hgw : wo.heap.size ≤ g := (ho.block g rfl).1
  have HY := hid hY
  have HYL : Hid (m + Y.length = b) := hid (by omega)
  have HAM : Hid (a + 1 = m) := hid (by omega)
  have HAP := hid ha
  have hbn : b ≤ n := by omega
  have hmb : m ≤ b := by omega
  have ham : a < m := by omega
  have w1 : IntKind.i64.wrap ((m : Int) - (a : Int)) = 1 := by rw [IntWalk.i64_in _ (by omega)]; omega
  have HX := hid hx
  have HO := hid ho
  have hcx : (P ++ (insP Y x 0 ++ Q))[a]? = some x := by rw [ha, List.getElem?_append_right (Nat.le_refl _)]; simp [insP_zero]
  have HCX := hid hcx
  clear hx ho hln ha hm hb hY hcx
  go_enter Tryd.func63, Tryd.ntmps63
  go_wp2
  clear w1
  go_loopw [10, 11] (fun s10 s11 wr => ∃ (i j : Nat), m ≤ i ∧ i ≤ j ∧ j ≤ b ∧ s10 = .int .i64 i ∧ s11 = .int .i64 j ∧ Hid (∀ y, i ≠ m → Y[i - m - 1]? = some y → ltS y x = true) ∧ Hid (∀ y, j ≠ b → Y[j - m]? = some y → ltS y x = false) ∧ Hid (OwnS symR wr wo.heap.size 27 All (.slice (some ⟨g, 0, none⟩) n c) (P ++ (insP Y x 0 ++ Q))) ∧ Hid (Ext wo wr)) (fun s10 s11 _ => (intOf s11).toNat - (intOf s10).toNat)
  case atStart => exact ⟨m, b, by omega, hmb, by omega, rfl, rfl, hid (fun y h => absurd rfl h), hid (fun y h => absurd rfl h), HO, HX⟩
  case round =>
    obtain ⟨i, j, hmi, hij, hjb, rfl, rfl, HLO, HHI, HE, HXR⟩ := hrel
    by_cases h1 : i < j
    · obtain ⟨h, hh⟩ : ∃ h, (i + j) / 2 = h := ⟨_, rfl⟩
      have e2 : ((i : Int) + (j : Int)) / 2 = (h : Int) := by omega
      have hh1 : i ≤ h := by omega
      have hh2 : h < j := by omega
      obtain ⟨y, hy⟩ : ∃ y, Y[h - m]? = some y := ⟨_, List.getElem?_eq_getElem (by have := HYL.out; omega)⟩
      have hdy : (P ++ (insP Y x 0 ++ Q))[h]? = some y := by
        have e : h = P.length + (h - m + 1) := by have := HAP.out; have := HAM.out; omega
        rw [e, List.getElem?_append_right (by omega), Nat.add_sub_cancel_left, insP_zero, List.cons_append, List.getElem?_cons_succ, List.getElem?_append_left (List.getElem?_eq_some_iff.1 hy).1]
        exact hy
      obtain ⟨⟨x0, x1, x2⟩, -, -, -⟩ := sym_cells HE.out HCX.out
      obtain ⟨⟨y0, y1, y2⟩, -, -, -⟩ := sym_cells HE.out hdy
      have i1 : (0 : Int) ≤ (a : Int) := by omega
      have i2 : (a : Int) < (n : Int) := by omega
      have i3 : (0 : Int) ≤ (h : Int) := by omega
      have i4 : (h : Int) < (n : Int) := by omega
      have HYH := hid hy
      obtain ⟨r, hr⟩ : ∃ r, ltS y x = r := ⟨_, rfl⟩
      have HR := hid hr
      clear hh hy hdy hr
      go_upto_region 5 with fail
      clear e2
      refine wp_region_held_drew (S := (fun w' => w'.cell? ⟨g, a * 3, none⟩ = some (.string x.name) ∧ w'.cell? ⟨g, a * 3 + 1, none⟩ = some (.int .u32 x.addr) ∧ w'.cell? ⟨g, a * 3 + 2, none⟩ = some (.int .i64 x.kind) ∧ w'.cell? ⟨g, h * 3, none⟩ = some (.string y.name) ∧ w'.cell? ⟨g, h * 3 + 1, none⟩ = some (.int .u32 y.addr) ∧ w'.cell? ⟨g, h * 3 + 2, none⟩ = some (.int .i64 y.kind))) (by kernel_rfl) ⟨x0, x1, x2, y0, y1, y2⟩ (fun hSg6q0 => ?_)
      refine wpAnyH_takeL (i := 0) (v := ?g6qv0) rfl (by kernel_rfl) (by kernel_rfl) (by kernel_rfl) (fun _ _ _ h => h) (Or.inl ⟨by rfl, ?g6qy0⟩) (by assumption) ?g6qr0
      case g6qy0 => first | (intro w hSw; (try dsimp only at hSw); go_simp; done) | (intro w hSw; (try dsimp only at hSw); go_simp; with_reducible rfl)
      case' g6qr0 => try simp only [Act.put, List.setIfInBounds_toArray, List.set_cons_zero, List.set_cons_succ]
      refine wpAnyH_takeL (i := 1) (v := ?g6qv1) rfl (by kernel_rfl) (by kernel_rfl) (by kernel_rfl) (fun _ _ _ h => h) (Or.inl ⟨by rfl, ?g6qy1⟩) (by assumption) ?g6qr1
      case g6qy1 => first | (intro w hSw; (try dsimp only at hSw); go_simp; done) | (intro w hSw; (try dsimp only at hSw); go_simp; with_reducible rfl)
      case' g6qr1 => try simp only [Act.put, List.setIfInBounds_toArray, List.set_cons_zero, List.set_cons_succ]
      refine wpAnyH_takeL (i := 2) (v := ?g6qv2) rfl (by kernel_rfl) (by kernel_rfl) (by kernel_rfl) (fun _ _ _ h => h) (Or.inl ⟨by rfl, ?g6qy2⟩) (by assumption) ?g6qr2
      case g6qy2 => first | (intro w hSw; (try dsimp only at hSw); go_simp; done) | (intro w hSw; (try dsimp only at hSw); go_simp; with_reducible rfl)
      case' g6qr2 => try simp only [Act.put, List.setIfInBounds_toArray, List.set_cons_zero, List.set_cons_succ]
      refine wpAnyH_takeL (i := 3) (v := ?g6qv3) rfl (by kernel_rfl) (by kernel_rfl) (by kernel_rfl) (fun _ _ _ h => h) (Or.inl ⟨by rfl, ?g6qy3⟩) (by assumption) ?g6qr3
      case g6qy3 => first | (intro w hSw; (try dsimp only at hSw); go_simp; done) | (intro w hSw; (try dsimp only at hSw); go_simp; with_reducible rfl)
      case' g6qr3 => try simp only [Act.put, List.setIfInBounds_toArray, List.set_cons_zero, List.set_cons_succ]
      refine wpAnyH_takeL (i := 4) (v := ?g6qv4) rfl (by kernel_rfl) (by kernel_rfl) (by kernel_rfl) (fun _ _ _ h => h) (Or.inl ⟨by rfl, ?g6qy4⟩) (by assumption) ?g6qr4
      case g6qy4 => first | (intro w hSw; (try dsimp only at hSw); go_simp; done) | (intro w hSw; (try dsimp only at hSw); go_simp; with_reducible rfl)
      case' g6qr4 => try simp only [Act.put, List.setIfInBounds_toArray, List.set_cons_zero, List.set_cons_succ]
      refine wpAnyH_takeL (i := 5) (v := ?g6qv5) rfl (by kernel_rfl) (by kernel_rfl) (by kernel_rfl) (fun _ _ _ h => h) (Or.inl ⟨by rfl, ?g6qy5⟩) (by assumption) ?g6qr5
      case g6qy5 => first | (intro w hSw; (try dsimp only at hSw); go_simp; done) | (intro w hSw; (try dsimp only at hSw); go_simp; with_reducible rfl)
      case' g6qr5 => try simp only [Act.put, List.setIfInBounds_toArray, List.set_cons_zero, List.set_cons_succ]
      refine wpAnyH_takeL (i := 6) (v := ?g6qv6) rfl (by kernel_rfl) (by kernel_rfl) (by kernel_rfl) (fun _ _ _ h => h) (Or.inl ⟨by rfl, ?g6qy6⟩) (by assumption) ?g6qr6
      case g6qy6 => first | (intro w hSw; (try dsimp only at hSw); go_simp; done) | (intro w hSw; (try dsimp only at hSw); go_simp; with_reducible rfl)
      case' g6qr6 => try simp only [Act.put, List.setIfInBounds_toArray, List.set_cons_zero, List.set_cons_succ]
      refine wpAnyH_takeL (i := 7) (v := ?g6qv7) rfl (by kernel_rfl) (by kernel_rfl) (by kernel_rfl) (fun _ _ _ h => h) (Or.inl ⟨by rfl, ?g6qy7⟩) (by assumption) ?g6qr7
      case g6qy7 => first | (intro w hSw; (try dsimp only at hSw); go_simp; done) | (intro w hSw; (try dsimp only at hSw); go_simp; with_reducible rfl)
      case' g6qr7 => try simp only [Act.put, List.setIfInBounds_toArray, List.set_cons_zero, List.set_cons_succ]
      refine wpAnyH_takeL (i := 8) (v := ?g6qv8) rfl (by kernel_rfl) (by kernel_rfl) (by kernel_rfl) (fun _ _ _ h => h) (Or.inl ⟨by rfl, ?g6qy8⟩) (by assumption) ?g6qr8
      case g6qy8 => first | (intro w hSw; (try dsimp only at hSw); go_simp; done) | (intro w hSw; (try dsimp only at hSw); go_simp; with_reducible rfl)
      case' g6qr8 => try simp only [Act.put, List.setIfInBounds_toArray, List.set_cons_zero, List.set_cons_succ]
      refine wpAnyH_ready (rs := [9]) (by kernel_rfl) (by simp) ?_
      refine AllReadyH.consL rfl (fun K hK => ?_) AllReadyH.nil
      go_simp
      go_at_call 37
      refine (cmp_sy _ y x).mono ?_
      rintro e w6 ⟨⟨z, rfl, hz⟩, hx6⟩
      have HX6 := hid hx6.drew_left
      rw [HR.out] at hz
      clear hx6
      refine hK.out _ _ ⟨HX6.out.cell x0, HX6.out.cell x1, HX6.out.cell x2, HX6.out.cell y0, HX6.out.cell y1, HX6.out.cell y2⟩ (fun hSg6q1 => ?_)
      clear hK K
      try simp only [Act.put, List.setIfInBounds_toArray, List.set_cons_zero, List.set_cons_succ]
      refine wpAnyH_takeL (i := 10) (v := ?g6qv10) rfl (by kernel_rfl) (by kernel_rfl) (by kernel_rfl) (fun _ _ _ h => h) (Or.inl ⟨by rfl, ?g6qy10⟩) (by assumption) ?g6qr10
      case g6qy10 => first | (intro w hSw; (try dsimp only at hSw); go_simp; done) | (intro w hSw; (try dsimp only at hSw); go_simp; with_reducible rfl)
      case' g6qr10 => try simp only [Act.put, List.setIfInBounds_toArray, List.set_cons_zero, List.set_cons_succ]
      refine wpAnyH_done (by kernel_rfl) ?_ _
      have HE6 := hid (HE.out.ext HX6.out)
      have HXR6 := hid (HXR.out.trans HX6.out)
      cases r with
      | true =>
        have hz' : z < 0 := by simpa using hz
        clear hz
        go_wp2
        first
          | go_roundw
          | refine ⟨?rel, ?measure⟩
        case rel => exact ⟨h + 1, j, by omega, by omega, by omega, by first | rfl | go_num, rfl, hid (fun y' _ hy' => by rw [show h + 1 - m - 1 = h - m by omega, HYH.out] at hy'; cases hy'; exact HR.out), HHI, HE6, HXR6⟩
        case measure => simp [intOf]; omega
      | false =>
        have hz' : ¬ z < 0 := by simpa using hz
        clear hz
        go_wp2
        first
          | go_roundw
          | refine ⟨?rel, ?measure⟩
        case rel => exact ⟨i, h, by omega, by omega, by omega, rfl, by first | rfl | go_num, HLO, hid (fun y' _ hy' => by rw [HYH.out] at hy'; cases hy'; exact HR.out), HE6, HXR6⟩
        case measure => simp [intOf]; omega
    · obtain rfl : i = j := by omega
      obtain ⟨s, hs⟩ : ∃ s, i - m = s := ⟨_, rfl⟩
      have hin : mrg ltS [x] Y = insP Y x s := by
        rw [← hs]
        exact mrg_one_l weakS HY.out (by have := HYL.out; omega) (fun y h0 hy => HLO.out y (by omega) hy) (fun y hy => HHI.out y (fun e => by
          have := (List.getElem?_eq_some_iff.1 hy).1
          have := HYL.out
          omega) hy)
      have HIN := hid hin
      have HSI : Hid (m + s = i) := hid (by omega)
      obtain ⟨i', hi'⟩ : ∃ i', i - 1 = i' := ⟨_, rfl⟩
      have w2 : IntKind.i64.wrap ((i : Int) - 1) = (i' : Int) := by rw [IntWalk.i64_in _ (by omega)]; omega
      have HI' : Hid (a + s = i') := hid (by have := HAM.out; have := HSI.out; omega)
      have hi'n : i' < n := by omega
      clear hs hin hi'
      have hU : ∃ U, U = wr := ⟨_, rfl⟩
      obtain ⟨U, rfl⟩ := hU
      go_wp2
      go_loopw [13] (fun s13 wr => ∃ (p k : Nat), p ≤ s ∧ k ≤ n ∧ s13 = .int .i64 k ∧ Hid (a + p = k) ∧ Hid (OwnS symR wr wo.heap.size 27 All (.slice (some ⟨g, 0, none⟩) n c) (P ++ (insP Y x p ++ Q))) ∧ Hid (Ext wo wr)) (fun s13 _ => n - (intOf s13).toNat)
      case atStart => exact ⟨0, a, by omega, by omega, rfl, hid rfl, HE, HXR⟩
      case round =>
        obtain ⟨p, k, hp, hk, rfl, HPK, HE2, HXR2⟩ := hrel
        by_cases h2 : k < i'
        · obtain ⟨y, hy⟩ : ∃ y, Y[p]? = some y := ⟨_, List.getElem?_eq_getElem (by have := HYL.out; have := HSI.out; have := HI'.out; have := HPK.out; omega)⟩
          obtain ⟨m1, m2, m3⟩ := move_up (P := P) (R := Q) (x := x) hy
          have hk0 : P.length + p = k := by have := HPK.out; have := HAP.out; omega
          obtain ⟨k1, hk1⟩ : ∃ k1, k + 1 = k1 := ⟨_, rfl⟩
          rw [hk0] at m1 m2 m3
          rw [hk1] at m2 m3
          have HMV := hid m3
          have hps : p + 1 ≤ s := by have := HI'.out; have := HPK.out; omega
          obtain ⟨E, hE⟩ : ∃ E, P ++ (insP Y x p ++ Q) = E := ⟨_, rfl⟩
          rw [hE] at m1 m2 HE2 HMV
          have HE := HE2
          have HXR := HXR2
          have ey := m1
          have ex := m2
          obtain ⟨⟨x0, x1, x2⟩, f0, f1, f2⟩ := sym_cells HE.out ex
          obtain ⟨⟨y0, y1, y2⟩, g0, g1, g2⟩ := sym_cells HE.out ey
          have w9 : IntKind.i64.wrap ((k : Int) + 1) = (k1 : Int) := by rw [IntWalk.i64_in _ (by omega)]; omega
          have i1 : (0 : Int) ≤ (k : Int) := by omega
          have i2 : (k : Int) < (n : Int) := by omega
          have i3 : (0 : Int) ≤ (k1 : Int) := by omega
          have hk1n : k1 < n := by omega
          have i4 : (k1 : Int) < (n : Int) := by omega
          have hpq : k ≠ k1 := by omega
          have hkk : k < k1 := by omega
          have HK1 : Hid (a + (p + 1) = k1) := hid (by have := HPK.out; omega)
          clear hy hk0 hk1 hE m1 m2 m3
          have hokx := symP.own_ok HE.out y (List.mem_of_getElem? ex)
          have hoky := symP.own_ok HE.out x (List.mem_of_getElem? ey)
          obtain ⟨W1, hW1⟩ : ∃ W1, ((wr.setCell ⟨g, k * 3, none⟩ (.string y.name)).setCell ⟨g, k * 3 + 1, none⟩ (.int .u32 y.addr)).setCell ⟨g, k * 3 + 2, none⟩ (.int .i64 y.kind) = W1 := ⟨_, rfl⟩
          have ho1 := sym_put HE.out ey hokx
          rw [hW1] at ho1
          have ex1 : (E.set k y)[k1]? = some y := by rw [List.getElem?_set_ne hpq]; exact ex
          obtain ⟨⟨u0, u1, u2⟩, v0, v1, v2⟩ := sym_cells ho1 ex1
          obtain ⟨W2, hW2⟩ : ∃ W2, ((W1.setCell ⟨g, k1 * 3, none⟩ (.string x.name)).setCell ⟨g, k1 * 3 + 1, none⟩ (.int .u32 x.addr)).setCell ⟨g, k1 * 3 + 2, none⟩ (.int .i64 x.kind) = W2 := ⟨_, rfl⟩
          have ho2 := sym_put ho1 ex1 hoky
          rw [hW2] at ho2
          have hx1 : Ext wo W1 := by rw [← hW1]; exact ((HXR.out.setCell (p := ⟨g, k * 3, none⟩) hgw _).setCell (p := ⟨g, k * 3 + 1, none⟩) hgw _).setCell (p := ⟨g, k * 3 + 2, none⟩) hgw _
          have hx2 : Ext wo W2 := by rw [← hW2]; exact ((hx1.setCell (p := ⟨g, k1 * 3, none⟩) hgw _).setCell (p := ⟨g, k1 * 3 + 1, none⟩) hgw _).setCell (p := ⟨g, k1 * 3 + 2, none⟩) hgw _
          have HO2 := hid ho2
          have HX2 := hid hx2
          clear hokx hoky ho1 ex1 ho2 hx1 hx2
          go_upto_region 11 with fail
          have HXg7q_0 := hid ((Ext.refl wr).drew)
          refine wp_region_held_drew (S := (fun w' => True)) (by kernel_rfl) trivial (fun hSg7q0 => ?_)
          refine wpAnyH_takeL (i := 0) (v := ?g7qv0x1) rfl (by kernel_rfl) (by kernel_rfl) (by kernel_rfl) (fun _ _ _ h => h) (Or.inl ⟨by rfl, ?g7qy0x1⟩) (by assumption) ?g7qr0x1
          case g7qy0x1 => first | (intro w hSw; (try dsimp only at hSw); go_simp; done) | (intro w hSw; (try dsimp only at hSw); go_simp; with_reducible rfl)
          case' g7qr0x1 => try simp only [Act.put, List.setIfInBounds_toArray, List.set_cons_zero, List.set_cons_succ]
          refine wpAnyH_takeL (i := 1) (v := ?g7qv1x2) rfl (by kernel_rfl) (by kernel_rfl) (by kernel_rfl) (fun _ _ _ h => h) (Or.inl ⟨by rfl, ?g7qy1x2⟩) (by assumption) ?g7qr1x2
          case g7qy1x2 => first | (intro w hSw; (try dsimp only at hSw); go_simp; done) | (intro w hSw; (try dsimp only at hSw); go_simp; with_reducible rfl)
          case' g7qr1x2 => try simp only [Act.put, List.setIfInBounds_toArray, List.set_cons_zero, List.set_cons_succ]
          refine wpAnyH_takeL (i := 2) (v := ?g7qv2x3) rfl (by kernel_rfl) (by kernel_rfl) (by kernel_rfl) (fun _ _ _ h => h) (Or.inl ⟨by rfl, ?g7qy2x3⟩) (by assumption) ?g7qr2x3
          case g7qy2x3 => first | (intro w hSw; (try dsimp only at hSw); go_simp; done) | (intro w hSw; (try dsimp only at hSw); go_simp; with_reducible rfl)
          case' g7qr2x3 => try simp only [Act.put, List.setIfInBounds_toArray, List.set_cons_zero, List.set_cons_succ]
          refine wpAnyH_takeL (i := 3) (v := ?g7qv3x4) rfl (by kernel_rfl) (by kernel_rfl) (by kernel_rfl) (fun _ _ _ h => h) (Or.inl ⟨by rfl, ?g7qy3x4⟩) (by assumption) ?g7qr3x4
          case g7qy3x4 => first | (intro w hSw; (try dsimp only at hSw); go_simp; done) | (intro w hSw; (try dsimp only at hSw); go_simp; with_reducible rfl)
          case' g7qr3x4 => try simp only [Act.put, List.setIfInBounds_toArray, List.set_cons_zero, List.set_cons_succ]
          refine wpAnyH_takeL (i := 4) (v := ?g7qv4x5) rfl (by kernel_rfl) (by kernel_rfl) (by kernel_rfl) (fun _ _ _ h => h) (Or.inl ⟨by rfl, ?g7qy4x5⟩) (by assumption) ?g7qr4x5
          case g7qy4x5 => first | (intro w hSw; (try dsimp only at hSw); go_simp; done) | (intro w hSw; (try dsimp only at hSw); go_simp; with_reducible rfl)
          case' g7qr4x5 => try simp only [Act.put, List.setIfInBounds_toArray, List.set_cons_zero, List.set_cons_succ]
          refine wpAnyH_takeL (i := 5) (v := ?g7qv5x6) rfl (by kernel_rfl) (by kernel_rfl) (by kernel_rfl) (fun _ _ _ h => h) (Or.inl ⟨by rfl, ?g7qy5x6⟩) (by assumption) ?g7qr5x6
          case g7qy5x6 => first | (intro w hSw; (try dsimp only at hSw); go_simp; done) | (intro w hSw; (try dsimp only at hSw); go_simp; with_reducible rfl)
          case' g7qr5x6 => try simp only [Act.put, List.setIfInBounds_toArray, List.set_cons_zero, List.set_cons_succ]
          refine wpAnyH_takeL (i := 6) (v := ?g7qv6x7) rfl (by kernel_rfl) (by kernel_rfl) (by kernel_rfl) (fun _ _ _ h => h) (Or.inl ⟨by rfl, ?g7qy6x7⟩) (by assumption) ?g7qr6x7
          case g7qy6x7 => first | (intro w hSw; (try dsimp only at hSw); go_simp; done) | (intro w hSw; (try dsimp only at hSw); go_simp; with_reducible rfl)
          case' g7qr6x7 => try simp only [Act.put, List.setIfInBounds_toArray, List.set_cons_zero, List.set_cons_succ]
          refine wpAnyH_takeL (i := 7) (v := ?g7qv7x8) rfl (by kernel_rfl) (by kernel_rfl) (by kernel_rfl) (fun _ _ _ h => h) (Or.inl ⟨by rfl, ?g7qy7x8⟩) (by assumption) ?g7qr7x8
          case g7qy7x8 => first | (intro w hSw; (try dsimp only at hSw); go_simp; done) | (intro w hSw; (try dsimp only at hSw); go_simp; with_reducible rfl)
          case' g7qr7x8 => try simp only [Act.put, List.setIfInBounds_toArray, List.set_cons_zero, List.set_cons_succ]
          refine wpAnyH_takeL (i := 8) (v := ?g7qv8x9) rfl (by kernel_rfl) (by kernel_rfl) (by kernel_rfl) (fun _ _ _ h => h) (Or.inl ⟨by rfl, ?g7qy8x9⟩) (by assumption) ?g7qr8x9
          case g7qy8x9 => first | (intro w hSw; (try dsimp only at hSw); go_simp; done) | (intro w hSw; (try dsimp only at hSw); go_simp; with_reducible rfl)
          case' g7qr8x9 => try simp only [Act.put, List.setIfInBounds_toArray, List.set_cons_zero, List.set_cons_succ]
          refine wpAnyH_takeL (i := 10) (v := ?g7qv10x10) rfl (by kernel_rfl) (by kernel_rfl) (by kernel_rfl) (fun _ _ _ h => h) (Or.inl ⟨by rfl, ?g7qy10x10⟩) (by assumption) ?g7qr10x10
          case g7qy10x10 => first | (intro w hSw; (try dsimp only at hSw); go_simp; done) | (intro w hSw; (try dsimp only at hSw); go_simp; with_reducible rfl)
          case' g7qr10x10 => try simp only [Act.put, List.setIfInBounds_toArray, List.set_cons_zero, List.set_cons_succ]
          refine wpAnyH_takeL (i := 11) (v := ?g7qv11x11) rfl (by kernel_rfl) (by kernel_rfl) (by kernel_rfl) (fun _ _ _ h => h) (Or.inl ⟨by rfl, ?g7qy11x11⟩) (by assumption) ?g7qr11x11
          case g7qy11x11 => first | (intro w hSw; (try dsimp only at hSw); go_simp; done) | (intro w hSw; (try dsimp only at hSw); go_simp; with_reducible rfl)
          case' g7qr11x11 => try simp only [Act.put, List.setIfInBounds_toArray, List.set_cons_zero, List.set_cons_succ]
          refine wpAnyH_takeL (i := 12) (v := ?g7qv12x12) rfl (by kernel_rfl) (by kernel_rfl) (by kernel_rfl) (fun _ _ _ h => h) (Or.inl ⟨by rfl, ?g7qy12x12⟩) (by assumption) ?g7qr12x12
          case g7qy12x12 => first | (intro w hSw; (try dsimp only at hSw); go_simp; done) | (intro w hSw; (try dsimp only at hSw); go_simp; with_reducible rfl)
          case' g7qr12x12 => try simp only [Act.put, List.setIfInBounds_toArray, List.set_cons_zero, List.set_cons_succ]
          refine wpAnyH_ready (rs := [9, 13]) (by kernel_rfl) (by simp) ?_
          refine (AllReadyH.consL rfl (fun K hK => ?g7qb9x13) (AllReadyH.consL rfl (fun K hK => ?g7qb13x13) AllReadyH.nil))
          case' g7qb9x13 =>
            have hEg7q1 := Ext.refl wr.drew
            go_simp
            have HXg7q_1 := hid (HXg7q_0.out.trans hEg7q1)
            clear hEg7q1
            refine hK.out _ _ (keepT HXg7q_1.out) (fun hSg7q1 => ?_)
            clear hK K
            try simp only [Act.put, List.setIfInBounds_toArray, List.set_cons_zero, List.set_cons_succ]
            refine wpAnyH_ready (rs := [13]) (by kernel_rfl) (by simp) ?_
            refine (AllReadyH.consL rfl (fun K hK => ?g7qb13x14) AllReadyH.nil)
            case' g7qb13x14 =>
              have hEg7q2 := Ext.refl wr.drew
              go_simp
              have HXg7q_2 := hid (HXg7q_1.out.trans hEg7q2)
              clear hEg7q2
              refine hK.out _ _ (keepT HXg7q_2.out) (fun hSg7q2 => ?_)
              clear hK K
              try simp only [Act.put, List.setIfInBounds_toArray, List.set_cons_zero, List.set_cons_succ]
              refine wpAnyH_takeL (i := 14) (v := ?g7qv14x15) rfl (by kernel_rfl) (by kernel_rfl) (by kernel_rfl) (fun _ _ _ h => h) (Or.inl ⟨by rfl, ?g7qy14x15⟩) (by assumption) ?g7qr14x15
              case g7qy14x15 => first | (intro w hSw; (try dsimp only at hSw); go_simp; done) | (intro w hSw; (try dsimp only at hSw); go_simp; with_reducible rfl)
              case' g7qr14x15 => try simp only [Act.put, List.setIfInBounds_toArray, List.set_cons_zero, List.set_cons_succ]
              refine wpAnyH_ready (rs := [15]) (by kernel_rfl) (by simp) ?_
              refine (AllReadyH.consL rfl (fun K hK => ?g7qb15x16) AllReadyH.nil)
              case' g7qb15x16 =>
                go_simp
                refine hK.out _ _ trivial (fun hSg7q3 => ?_)
                clear hK K
                try simp only [Act.put, List.setIfInBounds_toArray, List.set_cons_zero, List.set_cons_succ]
                refine wpAnyH_takeL (i := 16) (v := ?g7qv16x17) rfl (by kernel_rfl) (by kernel_rfl) (by kernel_rfl) (fun _ _ _ h => h) (Or.inl ⟨by rfl, ?g7qy16x17⟩) (by assumption) ?g7qr16x17
                case g7qy16x17 => first | (intro w hSw; (try dsimp only at hSw); go_simp; done) | (intro w hSw; (try dsimp only at hSw); go_simp; with_reducible rfl)
                case' g7qr16x17 => try simp only [Act.put, List.setIfInBounds_toArray, List.set_cons_zero, List.set_cons_succ]
                refine wpAnyH_ready (rs := [17]) (by kernel_rfl) (by simp) ?_
                refine (AllReadyH.consL rfl (fun K hK => ?g7qb17x18) AllReadyH.nil)
                case' g7qb17x18 =>
                  go_simp
                  refine hK.out _ _ trivial (fun hSg7q4 => ?_)
                  clear hK K
                  try simp only [Act.put, List.setIfInBounds_toArray, List.set_cons_zero, List.set_cons_succ]
                  refine wpAnyH_done (by kernel_rfl) ?_ _
                  go_wp2
                  first
                    | go_roundw
                    | refine ⟨?rel, ?measure⟩
                  case rel =>
                    refine ⟨p + 1, k1, hps, by omega, by first | rfl | go_num, HK1, hid ?_, hid HX2.out.drew⟩
                    have h := HO2.out.dr
                    rw [HMV.out] at h
                    exact h
                  case measure => simp [intOf]; omega
          case' g7qb13x13 =>
            have hEg7q1 := Ext.refl wr.drew
            go_simp
            have HXg7q_1 := hid (HXg7q_0.out.trans hEg7q1)
            clear hEg7q1
            refine hK.out _ _ (keepT HXg7q_1.out) (fun hSg7q1 => ?_)
            clear hK K
            try simp only [Act.put, List.setIfInBounds_toArray, List.set_cons_zero, List.set_cons_succ]
            refine wpAnyH_ready (rs := [9]) (by kernel_rfl) (by simp) ?_
            refine (AllReadyH.consL rfl (fun K hK => ?g7qb9x19) AllReadyH.nil)
            case' g7qb9x19 =>
              have hEg7q2 := Ext.refl wr.drew
              go_simp
              have HXg7q_2 := hid (HXg7q_1.out.trans hEg7q2)
              clear hEg7q2
              refine hK.out _ _ (keepT HXg7q_2.out) (fun hSg7q2 => ?_)
              clear hK K
              try simp only [Act.put, List.setIfInBounds_toArray, List.set_cons_zero, List.set_cons_succ]
              refine wpAnyH_takeL (i := 14) (v := ?g7qv14x20) rfl (by kernel_rfl) (by kernel_rfl) (by kernel_rfl) (fun _ _ _ h => h) (Or.inl ⟨by rfl, ?g7qy14x20⟩) (by assumption) ?g7qr14x20
              case g7qy14x20 => first | (intro w hSw; (try dsimp only at hSw); go_simp; done) | (intro w hSw; (try dsimp only at hSw); go_simp; with_reducible rfl)
              case' g7qr14x20 => try simp only [Act.put, List.setIfInBounds_toArray, List.set_cons_zero, List.set_cons_succ]
              refine wpAnyH_ready (rs := [15]) (by kernel_rfl) (by simp) ?_
              refine (AllReadyH.consL rfl (fun K hK => ?g7qb15x21) AllReadyH.nil)
              case' g7qb15x21 =>
                go_simp
                refine hK.out _ _ trivial (fun hSg7q3 => ?_)
                clear hK K
                try simp only [Act.put, List.setIfInBounds_toArray, List.set_cons_zero, List.set_cons_succ]
                refine wpAnyH_takeL (i := 16) (v := ?g7qv16x22) rfl (by kernel_rfl) (by kernel_rfl) (by kernel_rfl) (fun _ _ _ h => h) (Or.inl ⟨by rfl, ?g7qy16x22⟩) (by assumption) ?g7qr16x22
                case g7qy16x22 => first | (intro w hSw; (try dsimp only at hSw); go_simp; done) | (intro w hSw; (try dsimp only at hSw); go_simp; with_reducible rfl)
                case' g7qr16x22 => try simp only [Act.put, List.setIfInBounds_toArray, List.set_cons_zero, List.set_cons_succ]
                refine wpAnyH_ready (rs := [17]) (by kernel_rfl) (by simp) ?_
                refine (AllReadyH.consL rfl (fun K hK => ?g7qb17x23) AllReadyH.nil)
                case' g7qb17x23 =>
                  go_simp
                  refine hK.out _ _ trivial (fun hSg7q4 => ?_)
                  clear hK K
                  try simp only [Act.put, List.setIfInBounds_toArray, List.set_cons_zero, List.set_cons_succ]
                  refine wpAnyH_done (by kernel_rfl) ?_ _
                  go_wp2
                  first
                    | go_roundw
                    | refine ⟨?rel, ?measure⟩
                  case rel =>
                    refine ⟨p + 1, k1, hps, by omega, by first | rfl | go_num, HK1, hid ?_, hid HX2.out.drew⟩
                    have h := HO2.out.dr
                    rw [HMV.out] at h
                    exact h
                  case measure => simp [intOf]; omega
        · have hps : p = s := by have := HI'.out; have := HPK.out; omega
          subst hps
          have HF : Hid (OwnS symR wr wo.heap.size 27 All (.slice (some ⟨g, 0, none⟩) n c) (P ++ (mrg ltS [x] Y ++ Q))) := hid (by rw [HIN.out]; exact HE2.out)
          go_wp2
          (try simp only [Exit.inBlock, Exit.then])
          refine bodyPost_ret (results_none rfl _ _ _) rfl ?_
          exact ⟨rfl, HXR2.out, HF.out⟩

set_option maxRecDepth 100000 in
set_option maxHeartbeats 4000000 in
theorem symg_r (wo w : World) (g n c : Nat) (P X Q : List Sy) (y : Sy) (hx : Ext wo w) (ho : OwnS symR w wo.heap.size 27 All (.slice (some ⟨g, 0, none⟩) n c) (P ++ (insP X y X.length ++ Q))) (hX : Srt ltS X) (hX1 : X.length ≠ 1) (hn : n ≤ 1000000) (a m b : Nat) (ha : a = P.length) (hm : m = P.length + X.length) (hb : b = P.length + X.length + 1) :
    Calls Tryd.prog 63 #[.slice (some ⟨g, 0, none⟩) n c, .int .i64 a, .int .i64 m, .int .i64 b, .func (.func 37) #[] #[]] w (RowS wo g n c (P ++ (mrg ltS X [y] ++ Q))) := by
  have hg := call_syord
  have hln := ho.len
  simp only [List.length_append, insP_len] at hln
  have hgw : wo.heap.size ≤ g := (ho.block g rfl).1
  have HXS := hid hX
  have HXL : Hid (a + X.length = m) := hid (by omega)
  have HAP := hid ha
  have hbn : m < n := by omega
  have ham : a ≤ m := by omega
  obtain ⟨x1, hx1⟩ : ∃ x1, m - a = x1 := ⟨_, rfl⟩
  have hx1' : x1 ≠ 1 := by omega
  have w1 : IntKind.i64.wrap ((m : Int) - (a : Int)) = (x1 : Int) := by rw [IntWalk.i64_in _ (by omega)]; omega
  have n1 : ((x1 : Int) == 1) = false := by simp; omega
  have w2 : IntKind.i64.wrap ((b : Int) - (m : Int)) = 1 := by rw [IntWalk.i64_in _ (by omega)]; omega
  have HXX := hid hx
  have HO := hid ho
  have hcy : (P ++ (insP X y X.length ++ Q))[m]? = some y := by rw [hm, insP_all, List.getElem?_append_right (by omega), Nat.add_sub_cancel_left, List.append_assoc, List.getElem?_append_right (Nat.le_refl _)]; simp
  have HCY := hid hcy
  clear hx ho hln ha hm hb hX hcy hX1 hx1 hx1'
  go_enter Tryd.func63, Tryd.ntmps63
  go_wp2
  clear w1 w2 n1
  go_loopw [14, 15] (fun s14 s15 wr => ∃ (i j : Nat), a ≤ i ∧ i ≤ j ∧ j ≤ m ∧ s14 = .int .i64 i ∧ s15 = .int .i64 j ∧ Hid (∀ x, i ≠ a → X[i - a - 1]? = some x → ltS y x = false) ∧ Hid (∀ x, j ≠ m → X[j - a]? = some x → ltS y x = true) ∧ Hid (OwnS symR wr wo.heap.size 27 All (.slice (some ⟨g, 0, none⟩) n c) (P ++ (insP X y X.length ++ Q))) ∧ Hid (Ext wo wr)) (fun s14 s15 _ => (intOf s15).toNat - (intOf s14).toNat)
  case atStart => exact ⟨a, m, by omega, ham, by omega, rfl, rfl, hid (fun y h => absurd rfl h), hid (fun y h => absurd rfl h), HO, HXX⟩
  case round =>
    obtain ⟨i, j, hmi, hij, hjb, rfl, rfl, HLO, HHI, HE, HXR⟩ := hrel
    by_cases h1 : i < j
    · obtain ⟨h, hh⟩ : ∃ h, (i + j) / 2 = h := ⟨_, rfl⟩
      have e2 : ((i : Int) + (j : Int)) / 2 = (h : Int) := by omega
      have hh1 : i ≤ h := by omega
      have hh2 : h < j := by omega
      obtain ⟨x, hx⟩ : ∃ x, X[h - a]? = some x := ⟨_, List.getElem?_eq_getElem (by have := HXL.out; omega)⟩
      have hdx : (P ++ (insP X y X.length ++ Q))[h]? = some x := by
        have e : h = P.length + (h - a) := by have := HAP.out; omega
        rw [e, List.getElem?_append_right (by omega), Nat.add_sub_cancel_left, insP_all, List.append_assoc, List.getElem?_append_left (List.getElem?_eq_some_iff.1 hx).1]
        exact hx
      obtain ⟨⟨y0, y1, y2⟩, -, -, -⟩ := sym_cells HE.out HCY.out
      obtain ⟨⟨x0, x1, x2⟩, -, -, -⟩ := sym_cells HE.out hdx
      have i1 : (0 : Int) ≤ (m : Int) := by omega
      have i2 : (m : Int) < (n : Int) := by omega
      have i3 : (0 : Int) ≤ (h : Int) := by omega
      have i4 : (h : Int) < (n : Int) := by omega
      have HXH := hid hx
      obtain ⟨r, hr⟩ : ∃ r, ltS y x = r := ⟨_, rfl⟩
      have HR := hid hr
      clear hh hx hdx hr
      go_upto_region 17 with fail
      clear e2
      refine wp_region_held_drew (S := (fun w' => w'.cell? ⟨g, m * 3, none⟩ = some (.string y.name) ∧ w'.cell? ⟨g, m * 3 + 1, none⟩ = some (.int .u32 y.addr) ∧ w'.cell? ⟨g, m * 3 + 2, none⟩ = some (.int .i64 y.kind) ∧ w'.cell? ⟨g, h * 3, none⟩ = some (.string x.name) ∧ w'.cell? ⟨g, h * 3 + 1, none⟩ = some (.int .u32 x.addr) ∧ w'.cell? ⟨g, h * 3 + 2, none⟩ = some (.int .i64 x.kind))) (by kernel_rfl) ⟨y0, y1, y2, x0, x1, x2⟩ (fun hSg8q0 => ?_)
      refine wpAnyH_takeL (i := 0) (v := ?g8qv0) rfl (by kernel_rfl) (by kernel_rfl) (by kernel_rfl) (fun _ _ _ h => h) (Or.inl ⟨by rfl, ?g8qy0⟩) (by assumption) ?g8qr0
      case g8qy0 => first | (intro w hSw; (try dsimp only at hSw); go_simp; done) | (intro w hSw; (try dsimp only at hSw); go_simp; with_reducible rfl)
      case' g8qr0 => try simp only [Act.put, List.setIfInBounds_toArray, List.set_cons_zero, List.set_cons_succ]
      refine wpAnyH_takeL (i := 1) (v := ?g8qv1) rfl (by kernel_rfl) (by kernel_rfl) (by kernel_rfl) (fun _ _ _ h => h) (Or.inl ⟨by rfl, ?g8qy1⟩) (by assumption) ?g8qr1
      case g8qy1 => first | (intro w hSw; (try dsimp only at hSw); go_simp; done) | (intro w hSw; (try dsimp only at hSw); go_simp; with_reducible rfl)
      case' g8qr1 => try simp only [Act.put, List.setIfInBounds_toArray, List.set_cons_zero, List.set_cons_succ]
      refine wpAnyH_takeL (i := 2) (v := ?g8qv2) rfl (by kernel_rfl) (by kernel_rfl) (by kernel_rfl) (fun _ _ _ h => h) (Or.inl ⟨by rfl, ?g8qy2⟩) (by assumption) ?g8qr2
      case g8qy2 => first | (intro w hSw; (try dsimp only at hSw); go_simp; done) | (intro w hSw; (try dsimp only at hSw); go_simp; with_reducible rfl)
      case' g8qr2 => try simp only [Act.put, List.setIfInBounds_toArray, List.set_cons_zero, List.set_cons_succ]
      refine wpAnyH_takeL (i := 3) (v := ?g8qv3) rfl (by kernel_rfl) (by kernel_rfl) (by kernel_rfl) (fun _ _ _ h => h) (Or.inl ⟨by rfl, ?g8qy3⟩) (by assumption) ?g8qr3
      case g8qy3 => first | (intro w hSw; (try dsimp only at hSw); go_simp; done) | (intro w hSw; (try dsimp only at hSw); go_simp; with_reducible rfl)
      case' g8qr3 => try simp only [Act.put, List.setIfInBounds_toArray, List.set_cons_zero, List.set_cons_succ]
      refine wpAnyH_takeL (i := 4) (v := ?g8qv4) rfl (by kernel_rfl) (by kernel_rfl) (by kernel_rfl) (fun _ _ _ h => h) (Or.inl ⟨by rfl, ?g8qy4⟩) (by assumption) ?g8qr4
      case g8qy4 => first | (intro w hSw; (try dsimp only at hSw); go_simp; done) | (intro w hSw; (try dsimp only at hSw); go_simp; with_reducible rfl)
      case' g8qr4 => try simp only [Act.put, List.setIfInBounds_toArray, List.set_cons_zero, List.set_cons_succ]
      refine wpAnyH_takeL (i := 5) (v := ?g8qv5) rfl (by kernel_rfl) (by kernel_rfl) (by kernel_rfl) (fun _ _ _ h => h) (Or.inl ⟨by rfl, ?g8qy5⟩) (by assumption) ?g8qr5
      case g8qy5 => first | (intro w hSw; (try dsimp only at hSw); go_simp; done) | (intro w hSw; (try dsimp only at hSw); go_simp; with_reducible rfl)
      case' g8qr5 => try simp only [Act.put, List.setIfInBounds_toArray, List.set_cons_zero, List.set_cons_succ]
      refine wpAnyH_takeL (i := 6) (v := ?g8qv6) rfl (by kernel_rfl) (by kernel_rfl) (by kernel_rfl) (fun _ _ _ h => h) (Or.inl ⟨by rfl, ?g8qy6⟩) (by assumption) ?g8qr6
      case g8qy6 => first | (intro w hSw; (try dsimp only at hSw); go_simp; done) | (intro w hSw; (try dsimp only at hSw); go_simp; with_reducible rfl)
      case' g8qr6 => try simp only [Act.put, List.setIfInBounds_toArray, List.set_cons_zero, List.set_cons_succ]
      refine wpAnyH_takeL (i := 7) (v := ?g8qv7) rfl (by kernel_rfl) (by kernel_rfl) (by kernel_rfl) (fun _ _ _ h => h) (Or.inl ⟨by rfl, ?g8qy7⟩) (by assumption) ?g8qr7
      case g8qy7 => first | (intro w hSw; (try dsimp only at hSw); go_simp; done) | (intro w hSw; (try dsimp only at hSw); go_simp; with_reducible rfl)
      case' g8qr7 => try simp only [Act.put, List.setIfInBounds_toArray, List.set_cons_zero, List.set_cons_succ]
      refine wpAnyH_takeL (i := 8) (v := ?g8qv8) rfl (by kernel_rfl) (by kernel_rfl) (by kernel_rfl) (fun _ _ _ h => h) (Or.inl ⟨by rfl, ?g8qy8⟩) (by assumption) ?g8qr8
      case g8qy8 => first | (intro w hSw; (try dsimp only at hSw); go_simp; done) | (intro w hSw; (try dsimp only at hSw); go_simp; with_reducible rfl)
      case' g8qr8 => try simp only [Act.put, List.setIfInBounds_toArray, List.set_cons_zero, List.set_cons_succ]
      refine wpAnyH_ready (rs := [9]) (by kernel_rfl) (by simp) ?_
      refine AllReadyH.consL rfl (fun K hK => ?_) AllReadyH.nil
      go_simp
      go_at_call 37
      refine (cmp_sy _ y x).mono ?_
      rintro e w6 ⟨⟨z, rfl, hz⟩, hx6⟩
      have HX6 := hid hx6.drew_left
      rw [HR.out] at hz
      clear hx6
      refine hK.out _ _ ⟨HX6.out.cell y0, HX6.out.cell y1, HX6.out.cell y2, HX6.out.cell x0, HX6.out.cell x1, HX6.out.cell x2⟩ (fun hSg8q1 => ?_)
      clear hK K
      try simp only [Act.put, List.setIfInBounds_toArray, List.set_cons_zero, List.set_cons_succ]
      refine wpAnyH_takeL (i := 10) (v := ?g8qv10) rfl (by kernel_rfl) (by kernel_rfl) (by kernel_rfl) (fun _ _ _ h => h) (Or.inl ⟨by rfl, ?g8qy10⟩) (by assumption) ?g8qr10
      case g8qy10 => first | (intro w hSw; (try dsimp only at hSw); go_simp; done) | (intro w hSw; (try dsimp only at hSw); go_simp; with_reducible rfl)
      case' g8qr10 => try simp only [Act.put, List.setIfInBounds_toArray, List.set_cons_zero, List.set_cons_succ]
      refine wpAnyH_takeL (i := 11) (v := ?g8qv11) rfl (by kernel_rfl) (by kernel_rfl) (by kernel_rfl) (fun _ _ _ h => h) (Or.inl ⟨by rfl, ?g8qy11⟩) (by assumption) ?g8qr11
      case g8qy11 => first | (intro w hSw; (try dsimp only at hSw); go_simp; done) | (intro w hSw; (try dsimp only at hSw); go_simp; with_reducible rfl)
      case' g8qr11 => try simp only [Act.put, List.setIfInBounds_toArray, List.set_cons_zero, List.set_cons_succ]
      refine wpAnyH_done (by kernel_rfl) ?_ _
      have HE6 := hid (HE.out.ext HX6.out)
      have HXR6 := hid (HXR.out.trans HX6.out)
      cases r with
      | false =>
        have hz' : ¬ z < 0 := by simpa using hz
        clear hz
        go_wp2
        first
          | go_roundw
          | refine ⟨?rel, ?measure⟩
        case rel => exact ⟨h + 1, j, by omega, by omega, by omega, by first | rfl | go_num, rfl, hid (fun y' _ hy' => by rw [show h + 1 - a - 1 = h - a by omega, HXH.out] at hy'; cases hy'; exact HR.out), HHI, HE6, HXR6⟩
        case measure => simp [intOf]; omega
      | true =>
        have hz' : z < 0 := by simpa using hz
        clear hz
        go_wp2
        first
          | go_roundw
          | refine ⟨?rel, ?measure⟩
        case rel => exact ⟨i, h, by omega, by omega, by omega, rfl, by first | rfl | go_num, HLO, hid (fun y' _ hy' => by rw [HXH.out] at hy'; cases hy'; exact HR.out), HE6, HXR6⟩
        case measure => simp [intOf]; omega
    · obtain rfl : i = j := by omega
      obtain ⟨s, hs⟩ : ∃ s, i - a = s := ⟨_, rfl⟩
      have hin : mrg ltS X [y] = insP X y s := by
        rw [← hs]
        exact mrg_one_r weakS HXS.out (by have := HXL.out; omega) (fun x h0 hx => HLO.out x (by omega) hx) (fun x hx => HHI.out x (fun e => by
          have := (List.getElem?_eq_some_iff.1 hx).1
          have := HXL.out
          omega) hx)
      have HIN := hid hin
      have HSI : Hid (a + s = i) := hid (by omega)
      clear hs hin
      have hU : ∃ U, U = wr := ⟨_, rfl⟩
      obtain ⟨U, rfl⟩ := hU
      go_wp2
      go_loopw [17] (fun s17 wr => ∃ (p k : Nat), s ≤ p ∧ k ≤ m ∧ s17 = .int .i64 k ∧ Hid (a + p = k) ∧ Hid (OwnS symR wr wo.heap.size 27 All (.slice (some ⟨g, 0, none⟩) n c) (P ++ (insP X y p ++ Q))) ∧ Hid (Ext wo wr)) (fun s17 _ => (intOf s17).toNat)
      case atStart => exact ⟨X.length, m, by have := HXL.out; have := HSI.out; omega, by omega, rfl, HXL, HE, HXR⟩
      case round =>
        obtain ⟨p, k, hp, hk, rfl, HPK, HE2, HXR2⟩ := hrel
        by_cases h2 : i < k
        · obtain ⟨p', rfl⟩ : ∃ p', p = p' + 1 := ⟨p - 1, by have := HPK.out; have := HSI.out; omega⟩
          obtain ⟨x, hx⟩ : ∃ x, X[p']? = some x := ⟨_, List.getElem?_eq_getElem (by have := HXL.out; have := HPK.out; omega)⟩
          obtain ⟨m1, m2, m3⟩ := move_down (P := P) (R := Q) (x := y) hx
          obtain ⟨k1, hk1⟩ : ∃ k1, P.length + p' = k1 := ⟨_, rfl⟩
          have hk0 : k1 + 1 = k := by have := HPK.out; have := HAP.out; omega
          rw [hk1] at m1 m2 m3
          rw [hk0] at m2 m3
          have HMV := hid m3
          have hps : s ≤ p' := by have := HSI.out; have := HPK.out; omega
          obtain ⟨E, hE⟩ : ∃ E, P ++ (insP X y (p' + 1) ++ Q) = E := ⟨_, rfl⟩
          rw [hE] at m1 m2 HE2 HMV
          have HE := HE2
          have HXR := HXR2
          have ey := m2
          have ex := m1
          obtain ⟨⟨x0, x1, x2⟩, f0, f1, f2⟩ := sym_cells HE.out ex
          obtain ⟨⟨y0, y1, y2⟩, g0, g1, g2⟩ := sym_cells HE.out ey
          have w9 : IntKind.i64.wrap ((k : Int) - 1) = (k1 : Int) := by rw [IntWalk.i64_in _ (by omega)]; omega
          have i1 : (0 : Int) ≤ (k : Int) := by omega
          have i2 : (k : Int) < (n : Int) := by omega
          have i3 : (0 : Int) ≤ (k1 : Int) := by omega
          have hk1n : k1 < n := by omega
          have i4 : (k1 : Int) < (n : Int) := by omega
          have hpq : k ≠ k1 := by omega
          have hkk : k1 < k := by omega
          have HK1 : Hid (a + p' = k1) := hid (by have := HAP.out; omega)
          clear hx hk0 hk1 hE m1 m2 m3
          have hokx := symP.own_ok HE.out x (List.mem_of_getElem? ex)
          have hoky := symP.own_ok HE.out y (List.mem_of_getElem? ey)
          obtain ⟨W1, hW1⟩ : ∃ W1, ((wr.setCell ⟨g, k * 3, none⟩ (.string x.name)).setCell ⟨g, k * 3 + 1, none⟩ (.int .u32 x.addr)).setCell ⟨g, k * 3 + 2, none⟩ (.int .i64 x.kind) = W1 := ⟨_, rfl⟩
          have ho1 := sym_put HE.out ey hokx
          rw [hW1] at ho1
          have ex1 : (E.set k x)[k1]? = some x := by rw [List.getElem?_set_ne hpq]; exact ex
          obtain ⟨⟨u0, u1, u2⟩, v0, v1, v2⟩ := sym_cells ho1 ex1
          obtain ⟨W2, hW2⟩ : ∃ W2, ((W1.setCell ⟨g, k1 * 3, none⟩ (.string y.name)).setCell ⟨g, k1 * 3 + 1, none⟩ (.int .u32 y.addr)).setCell ⟨g, k1 * 3 + 2, none⟩ (.int .i64 y.kind) = W2 := ⟨_, rfl⟩
          have ho2 := sym_put ho1 ex1 hoky
          rw [hW2] at ho2
          have hx1 : Ext wo W1 := by rw [← hW1]; exact ((HXR.out.setCell (p := ⟨g, k * 3, none⟩) hgw _).setCell (p := ⟨g, k * 3 + 1, none⟩) hgw _).setCell (p := ⟨g, k * 3 + 2, none⟩) hgw _
          have hx2 : Ext wo W2 := by rw [← hW2]; exact ((hx1.setCell (p := ⟨g, k1 * 3, none⟩) hgw _).setCell (p := ⟨g, k1 * 3 + 1, none⟩) hgw _).setCell (p := ⟨g, k1 * 3 + 2, none⟩) hgw _
          have HO2 := hid ho2
          have HX2 := hid hx2
          clear hokx hoky ho1 ex1 ho2 hx1 hx2
          go_upto_region 23 with fail
          have HXg9q_0 := hid ((Ext.refl wr).drew)
          refine wp_region_held_drew (S := (fun w' => True)) (by kernel_rfl) trivial (fun hSg9q0 => ?_)
          refine wpAnyH_takeL (i := 0) (v := ?g9qv0x1) rfl (by kernel_rfl) (by kernel_rfl) (by kernel_rfl) (fun _ _ _ h => h) (Or.inl ⟨by rfl, ?g9qy0x1⟩) (by assumption) ?g9qr0x1
          case g9qy0x1 => first | (intro w hSw; (try dsimp only at hSw); go_simp; done) | (intro w hSw; (try dsimp only at hSw); go_simp; with_reducible rfl)
          case' g9qr0x1 => try simp only [Act.put, List.setIfInBounds_toArray, List.set_cons_zero, List.set_cons_succ]
          refine wpAnyH_takeL (i := 1) (v := ?g9qv1x2) rfl (by kernel_rfl) (by kernel_rfl) (by kernel_rfl) (fun _ _ _ h => h) (Or.inl ⟨by rfl, ?g9qy1x2⟩) (by assumption) ?g9qr1x2
          case g9qy1x2 => first | (intro w hSw; (try dsimp only at hSw); go_simp; done) | (intro w hSw; (try dsimp only at hSw); go_simp; with_reducible rfl)
          case' g9qr1x2 => try simp only [Act.put, List.setIfInBounds_toArray, List.set_cons_zero, List.set_cons_succ]
          refine wpAnyH_takeL (i := 2) (v := ?g9qv2x3) rfl (by kernel_rfl) (by kernel_rfl) (by kernel_rfl) (fun _ _ _ h => h) (Or.inl ⟨by rfl, ?g9qy2x3⟩) (by assumption) ?g9qr2x3
          case g9qy2x3 => first | (intro w hSw; (try dsimp only at hSw); go_simp; done) | (intro w hSw; (try dsimp only at hSw); go_simp; with_reducible rfl)
          case' g9qr2x3 => try simp only [Act.put, List.setIfInBounds_toArray, List.set_cons_zero, List.set_cons_succ]
          refine wpAnyH_takeL (i := 3) (v := ?g9qv3x4) rfl (by kernel_rfl) (by kernel_rfl) (by kernel_rfl) (fun _ _ _ h => h) (Or.inl ⟨by rfl, ?g9qy3x4⟩) (by assumption) ?g9qr3x4
          case g9qy3x4 => first | (intro w hSw; (try dsimp only at hSw); go_simp; done) | (intro w hSw; (try dsimp only at hSw); go_simp; with_reducible rfl)
          case' g9qr3x4 => try simp only [Act.put, List.setIfInBounds_toArray, List.set_cons_zero, List.set_cons_succ]
          refine wpAnyH_takeL (i := 4) (v := ?g9qv4x5) rfl (by kernel_rfl) (by kernel_rfl) (by kernel_rfl) (fun _ _ _ h => h) (Or.inl ⟨by rfl, ?g9qy4x5⟩) (by assumption) ?g9qr4x5
          case g9qy4x5 => first | (intro w hSw; (try dsimp only at hSw); go_simp; done) | (intro w hSw; (try dsimp only at hSw); go_simp; with_reducible rfl)
          case' g9qr4x5 => try simp only [Act.put, List.setIfInBounds_toArray, List.set_cons_zero, List.set_cons_succ]
          refine wpAnyH_takeL (i := 5) (v := ?g9qv5x6) rfl (by kernel_rfl) (by kernel_rfl) (by kernel_rfl) (fun _ _ _ h => h) (Or.inl ⟨by rfl, ?g9qy5x6⟩) (by assumption) ?g9qr5x6
          case g9qy5x6 => first | (intro w hSw; (try dsimp only at hSw); go_simp; done) | (intro w hSw; (try dsimp only at hSw); go_simp; with_reducible rfl)
          case' g9qr5x6 => try simp only [Act.put, List.setIfInBounds_toArray, List.set_cons_zero, List.set_cons_succ]
          refine wpAnyH_takeL (i := 6) (v := ?g9qv6x7) rfl (by kernel_rfl) (by kernel_rfl) (by kernel_rfl) (fun _ _ _ h => h) (Or.inl ⟨by rfl, ?g9qy6x7⟩) (by assumption) ?g9qr6x7
          case g9qy6x7 => first | (intro w hSw; (try dsimp only at hSw); go_simp; done) | (intro w hSw; (try dsimp only at hSw); go_simp; with_reducible rfl)
          case' g9qr6x7 => try simp only [Act.put, List.setIfInBounds_toArray, List.set_cons_zero, List.set_cons_succ]
          refine wpAnyH_takeL (i := 7) (v := ?g9qv7x8) rfl (by kernel_rfl) (by kernel_rfl) (by kernel_rfl) (fun _ _ _ h => h) (Or.inl ⟨by rfl, ?g9qy7x8⟩) (by assumption) ?g9qr7x8
          case g9qy7x8 => first | (intro w hSw; (try dsimp only at hSw); go_simp; done) | (intro w hSw; (try dsimp only at hSw); go_simp; with_reducible rfl)
          case' g9qr7x8 => try simp only [Act.put, List.setIfInBounds_toArray, List.set_cons_zero, List.set_cons_succ]
          refine wpAnyH_takeL (i := 8) (v := ?g9qv8x9) rfl (by kernel_rfl) (by kernel_rfl) (by kernel_rfl) (fun _ _ _ h => h) (Or.inl ⟨by rfl, ?g9qy8x9⟩) (by assumption) ?g9qr8x9
          case g9qy8x9 => first | (intro w hSw; (try dsimp only at hSw); go_simp; done) | (intro w hSw; (try dsimp only at hSw); go_simp; with_reducible rfl)
          case' g9qr8x9 => try simp only [Act.put, List.setIfInBounds_toArray, List.set_cons_zero, List.set_cons_succ]
          refine wpAnyH_takeL (i := 10) (v := ?g9qv10x10) rfl (by kernel_rfl) (by kernel_rfl) (by kernel_rfl) (fun _ _ _ h => h) (Or.inl ⟨by rfl, ?g9qy10x10⟩) (by assumption) ?g9qr10x10
          case g9qy10x10 => first | (intro w hSw; (try dsimp only at hSw); go_simp; done) | (intro w hSw; (try dsimp only at hSw); go_simp; with_reducible rfl)
          case' g9qr10x10 => try simp only [Act.put, List.setIfInBounds_toArray, List.set_cons_zero, List.set_cons_succ]
          refine wpAnyH_takeL (i := 11) (v := ?g9qv11x11) rfl (by kernel_rfl) (by kernel_rfl) (by kernel_rfl) (fun _ _ _ h => h) (Or.inl ⟨by rfl, ?g9qy11x11⟩) (by assumption) ?g9qr11x11
          case g9qy11x11 => first | (intro w hSw; (try dsimp only at hSw); go_simp; done) | (intro w hSw; (try dsimp only at hSw); go_simp; with_reducible rfl)
          case' g9qr11x11 => try simp only [Act.put, List.setIfInBounds_toArray, List.set_cons_zero, List.set_cons_succ]
          refine wpAnyH_takeL (i := 12) (v := ?g9qv12x12) rfl (by kernel_rfl) (by kernel_rfl) (by kernel_rfl) (fun _ _ _ h => h) (Or.inl ⟨by rfl, ?g9qy12x12⟩) (by assumption) ?g9qr12x12
          case g9qy12x12 => first | (intro w hSw; (try dsimp only at hSw); go_simp; done) | (intro w hSw; (try dsimp only at hSw); go_simp; with_reducible rfl)
          case' g9qr12x12 => try simp only [Act.put, List.setIfInBounds_toArray, List.set_cons_zero, List.set_cons_succ]
          refine wpAnyH_ready (rs := [9, 13]) (by kernel_rfl) (by simp) ?_
          refine (AllReadyH.consL rfl (fun K hK => ?g9qb9x13) (AllReadyH.consL rfl (fun K hK => ?g9qb13x13) AllReadyH.nil))
          case' g9qb9x13 =>
            have hEg9q1 := Ext.refl wr.drew
            go_simp
            have HXg9q_1 := hid (HXg9q_0.out.trans hEg9q1)
            clear hEg9q1
            refine hK.out _ _ (keepT HXg9q_1.out) (fun hSg9q1 => ?_)
            clear hK K
            try simp only [Act.put, List.setIfInBounds_toArray, List.set_cons_zero, List.set_cons_succ]
            refine wpAnyH_ready (rs := [13]) (by kernel_rfl) (by simp) ?_
            refine (AllReadyH.consL rfl (fun K hK => ?g9qb13x14) AllReadyH.nil)
            case' g9qb13x14 =>
              have hEg9q2 := Ext.refl wr.drew
              go_simp
              have HXg9q_2 := hid (HXg9q_1.out.trans hEg9q2)
              clear hEg9q2
              refine hK.out _ _ (keepT HXg9q_2.out) (fun hSg9q2 => ?_)
              clear hK K
              try simp only [Act.put, List.setIfInBounds_toArray, List.set_cons_zero, List.set_cons_succ]
              refine wpAnyH_takeL (i := 14) (v := ?g9qv14x15) rfl (by kernel_rfl) (by kernel_rfl) (by kernel_rfl) (fun _ _ _ h => h) (Or.inl ⟨by rfl, ?g9qy14x15⟩) (by assumption) ?g9qr14x15
              case g9qy14x15 => first | (intro w hSw; (try dsimp only at hSw); go_simp; done) | (intro w hSw; (try dsimp only at hSw); go_simp; with_reducible rfl)
              case' g9qr14x15 => try simp only [Act.put, List.setIfInBounds_toArray, List.set_cons_zero, List.set_cons_succ]
              refine wpAnyH_ready (rs := [15]) (by kernel_rfl) (by simp) ?_
              refine (AllReadyH.consL rfl (fun K hK => ?g9qb15x16) AllReadyH.nil)
              case' g9qb15x16 =>
                go_simp
                refine hK.out _ _ trivial (fun hSg9q3 => ?_)
                clear hK K
                try simp only [Act.put, List.setIfInBounds_toArray, List.set_cons_zero, List.set_cons_succ]
                refine wpAnyH_takeL (i := 16) (v := ?g9qv16x17) rfl (by kernel_rfl) (by kernel_rfl) (by kernel_rfl) (fun _ _ _ h => h) (Or.inl ⟨by rfl, ?g9qy16x17⟩) (by assumption) ?g9qr16x17
                case g9qy16x17 => first | (intro w hSw; (try dsimp only at hSw); go_simp; done) | (intro w hSw; (try dsimp only at hSw); go_simp; with_reducible rfl)
                case' g9qr16x17 => try simp only [Act.put, List.setIfInBounds_toArray, List.set_cons_zero, List.set_cons_succ]
                refine wpAnyH_ready (rs := [17]) (by kernel_rfl) (by simp) ?_
                refine (AllReadyH.consL rfl (fun K hK => ?g9qb17x18) AllReadyH.nil)
                case' g9qb17x18 =>
                  go_simp
                  refine hK.out _ _ trivial (fun hSg9q4 => ?_)
                  clear hK K
                  try simp only [Act.put, List.setIfInBounds_toArray, List.set_cons_zero, List.set_cons_succ]
                  refine wpAnyH_done (by kernel_rfl) ?_ _
                  go_wp2
                  first
                    | go_roundw
                    | refine ⟨?rel, ?measure⟩
                  case rel =>
                    refine ⟨p', k1, hps, by omega, by first | rfl | go_num, HK1, hid ?_, hid HX2.out.drew⟩
                    have h := HO2.out.dr
                    rw [HMV.out] at h
                    exact h
                  case measure => simp [intOf]; omega
          case' g9qb13x13 =>
            have hEg9q1 := Ext.refl wr.drew
            go_simp
            have HXg9q_1 := hid (HXg9q_0.out.trans hEg9q1)
            clear hEg9q1
            refine hK.out _ _ (keepT HXg9q_1.out) (fun hSg9q1 => ?_)
            clear hK K
            try simp only [Act.put, List.setIfInBounds_toArray, List.set_cons_zero, List.set_cons_succ]
            refine wpAnyH_ready (rs := [9]) (by kernel_rfl) (by simp) ?_
            refine (AllReadyH.consL rfl (fun K hK => ?g9qb9x19) AllReadyH.nil)
            case' g9qb9x19 =>
              have hEg9q2 := Ext.refl wr.drew
              go_simp
              have HXg9q_2 := hid (HXg9q_1.out.trans hEg9q2)
              clear hEg9q2
              refine hK.out _ _ (keepT HXg9q_2.out) (fun hSg9q2 => ?_)
              clear hK K
              try simp only [Act.put, List.setIfInBounds_toArray, List.set_cons_zero, List.set_cons_succ]
              refine wpAnyH_takeL (i := 14) (v := ?g9qv14x20) rfl (by kernel_rfl) (by kernel_rfl) (by kernel_rfl) (fun _ _ _ h => h) (Or.inl ⟨by rfl, ?g9qy14x20⟩) (by assumption) ?g9qr14x20
              case g9qy14x20 => first | (intro w hSw; (try dsimp only at hSw); go_simp; done) | (intro w hSw; (try dsimp only at hSw); go_simp; with_reducible rfl)
              case' g9qr14x20 => try simp only [Act.put, List.setIfInBounds_toArray, List.set_cons_zero, List.set_cons_succ]
              refine wpAnyH_ready (rs := [15]) (by kernel_rfl) (by simp) ?_
              refine (AllReadyH.consL rfl (fun K hK => ?g9qb15x21) AllReadyH.nil)
              case' g9qb15x21 =>
                go_simp
                refine hK.out _ _ trivial (fun hSg9q3 => ?_)
                clear hK K
                try simp only [Act.put, List.setIfInBounds_toArray, List.set_cons_zero, List.set_cons_succ]
                refine wpAnyH_takeL (i := 16) (v := ?g9qv16x22) rfl (by kernel_rfl) (by kernel_rfl) (by kernel_rfl) (fun _ _ _ h => h) (Or.inl ⟨by rfl, ?g9qy16x22⟩) (by assumption) ?g9qr16x22
                case g9qy16x22 => first | (intro w hSw; (try dsimp only at hSw); go_simp; done) | (intro w hSw; (try dsimp only at hSw); go_simp; with_reducible rfl)
                case' g9qr16x22 => try simp only [Act.put, List.setIfInBounds_toArray, List.set_cons_zero, List.set_cons_succ]
                refine wpAnyH_ready (rs := [17]) (by kernel_rfl) (by simp) ?_
                refine (AllReadyH.consL rfl (fun K hK => ?g9qb17x23) AllReadyH.nil)
                case' g9qb17x23 =>
                  go_simp
                  refine hK.out _ _ trivial (fun hSg9q4 => ?_)
                  clear hK K
                  try simp only [Act.put, List.setIfInBounds_toArray, List.set_cons_zero, List.set_cons_succ]
                  refine wpAnyH_done (by kernel_rfl) ?_ _
                  go_wp2
                  first
                    | go_roundw
                    | refine ⟨?rel, ?measure⟩
                  case rel =>
                    refine ⟨p', k1, hps, by omega, by first | rfl | go_num, HK1, hid ?_, hid HX2.out.drew⟩
                    have h := HO2.out.dr
                    rw [HMV.out] at h
                    exact h
                  case measure => simp [intOf]; omega
        · have hps : p = s := by have := HSI.out; have := HPK.out; omega
          subst hps
          have HF : Hid (OwnS symR wr wo.heap.size 27 All (.slice (some ⟨g, 0, none⟩) n c) (P ++ (mrg ltS X [y] ++ Q))) := hid (by rw [HIN.out]; exact HE2.out)
          go_wp2
          (try simp only [Exit.inBlock, Exit.then])
          refine bodyPost_ret (results_none rfl _ _ _) rfl ?_
          exact ⟨rfl, HXR2.out, HF.out⟩
end Go.Proofs.YtekilcnkinmakaaDoor
