/- CoverageMerges: the law's walk. -/
import Derived.Test.YtcddmggefmfkkaaMrgB
namespace Go.Proofs.Ytcddmggefmfkkaa
open Go.RowKit Go.Deco
set_option linter.unusedSimpArgs false
set_option linter.unusedVariables false

theorem ext4 {w w' : World} {p0 p1 p2 p3 : Addr} {u0 u1 u2 u3 : Value} (h : w.cell? p0 = some u0 ∧ w.cell? p1 = some u1 ∧ w.cell? p2 = some u2 ∧ w.cell? p3 = some u3) (he : Ext w w') :
    w'.cell? p0 = some u0 ∧ w'.cell? p1 = some u1 ∧ w'.cell? p2 = some u2 ∧ w'.cell? p3 = some u3 :=
  ⟨he.cell h.1, he.cell h.2.1, he.cell h.2.2.1, he.cell h.2.2.2⟩
theorem ext10 {w w' : World} {p0 p1 p2 p3 p4 p5 p6 p7 p8 p9 : Addr} {u0 u1 u2 u3 u4 u5 u6 u7 u8 u9 : Value} (h : w.cell? p0 = some u0 ∧ w.cell? p1 = some u1 ∧ w.cell? p2 = some u2 ∧ w.cell? p3 = some u3 ∧ w.cell? p4 = some u4 ∧ w.cell? p5 = some u5 ∧ w.cell? p6 = some u6 ∧ w.cell? p7 = some u7 ∧ w.cell? p8 = some u8 ∧ w.cell? p9 = some u9) (he : Ext w w') :
    w'.cell? p0 = some u0 ∧ w'.cell? p1 = some u1 ∧ w'.cell? p2 = some u2 ∧ w'.cell? p3 = some u3 ∧ w'.cell? p4 = some u4 ∧ w'.cell? p5 = some u5 ∧ w'.cell? p6 = some u6 ∧ w'.cell? p7 = some u7 ∧ w'.cell? p8 = some u8 ∧ w'.cell? p9 = some u9 :=
  ⟨he.cell h.1, he.cell h.2.1, he.cell h.2.2.1, he.cell h.2.2.2.1, he.cell h.2.2.2.2.1, he.cell h.2.2.2.2.2.1, he.cell h.2.2.2.2.2.2.1, he.cell h.2.2.2.2.2.2.2.1, he.cell h.2.2.2.2.2.2.2.2.1, he.cell h.2.2.2.2.2.2.2.2.2⟩
set_option maxRecDepth 100000 in
set_option maxHeartbeats 8000000 in
theorem mergeslaw_any (w : World) (A : Option Addr) (n c : Nat) (l : List Nat) (hl : Sl basR w All (.slice A n c) l) (A1 B1 : Option Addr) (n1 c1 k1 d1 : Nat) (bl1 : List Nat) (hs1 : List Int) (hb1 : Sl u32R w All (.slice A1 n1 c1) bl1) (hh1 : Sl i64R w All (.slice B1 k1 d1) hs1)
    (A2 B2 : Option Addr) (n2 c2 k2 d2 : Nat) (bl2 : List Nat) (hs2 : List Int) (hb2 : Sl u32R w All (.slice A2 n2 c2) bl2) (hh2 : Sl i64R w All (.slice B2 k2 d2) hs2) :
    Calls Try.prog 9 #[.slice A n c, .agg #[.slice A1 n1 c1, .slice B1 k1 d1], .agg #[.slice A2 n2 c2, .slice B2 k2 d2]] w (OneBool w true) := by
  have hln := hl.len
  obtain ⟨W0, hW0⟩ : ∃ W0, (w.alloc (.cells #[.slice A1 n1 c1, .slice B1 k1 d1] 29)).alloc (.cells #[.slice A2 n2 c2, .slice B2 k2 d2] 29) = W0 := ⟨_, rfl⟩
  have hE0 : Ext w W0 := by rw [← hW0]; exact ((Ext.refl w).alloc _).alloc _
  have x0 : W0.cell? ⟨w.heap.size, 0, none⟩ = some (.slice A1 n1 c1) := by rw [← hW0]; simp [go_sem]
  have x1 : W0.cell? ⟨w.heap.size, 1, none⟩ = some (.slice B1 k1 d1) := by rw [← hW0]; simp [go_sem]
  have y0 : W0.cell? ⟨w.heap.size + 1, 0, none⟩ = some (.slice A2 n2 c2) := by rw [← hW0]; simp [go_sem]
  have y1 : W0.cell? ⟨w.heap.size + 1, 1, none⟩ = some (.slice B2 k2 d2) := by rw [← hW0]; simp [go_sem]
  have HC0 := hid (And.intro x0 (And.intro x1 (And.intro y0 y1)))
  have HE0 := hid hE0
  have HL := hid (hl.ext hE0)
  have HB1 := hid (hb1.ext hE0)
  have HH1 := hid (hh1.ext hE0)
  have HB2 := hid (hb2.ext hE0)
  have HH2 := hid (hh2.ext hE0)
  have HLN := hid hln
  obtain ⟨r, hr⟩ : ∃ r, fewB n 0 = r := ⟨_, rfl⟩
  obtain ⟨r1, hr1⟩ : ∃ r1, fewHB n1 k1 = r1 := ⟨_, rfl⟩
  obtain ⟨r2, hr2⟩ : ∃ r2, fewHB n2 k2 = r2 := ⟨_, rfl⟩
  have HR := hid hr
  have HR1 := hid hr1
  have HR2 := hid hr2
  clear hE0 hl hb1 hh1 hb2 hh2 hln hr hr1 hr2
  go_enter Try.func9, Try.ntmps9
  go_wp2_with fail
  clear hW0
  refine (few_any W0 A none n c 0 0).mono ?_
  rintro e w' ⟨rfl, rfl⟩
  rw [HR.out]
  cases r with
  | false =>
    go_wp2_with fail
    refine (example_any _).mono ?_
    rintro e wz ⟨rfl, hxz⟩
    have HXZ := hid hxz; clear hxz
    go_wp2
    go_ret
    exact ⟨by simp, HE0.out.trans HXZ.out⟩
  | true =>
    go_wp2_with fail
    refine (fewHits_any W0 A1 B1 n1 c1 k1 d1).mono ?_
    rintro e w1 ⟨rfl, hx1⟩
    rw [HR1.out]
    have HX1 := hid hx1
    have HC1 := hid (ext4 HC0.out hx1)
    clear hx1 x0 x1 y0 y1
    obtain ⟨x0, x1, y0, y1⟩ := HC1.out
    cases r1 with
    | false =>
      go_wp2_with fail
      refine (example_any _).mono ?_
      rintro e wz ⟨rfl, hxz⟩
      have HXZ := hid hxz; clear hxz
      go_wp2
      go_ret
      exact ⟨by simp, HE0.out.trans (HX1.out.trans HXZ.out)⟩
    | true =>
      go_wp2_with fail
      refine (fewHits_any w1 A2 B2 n2 c2 k2 d2).mono ?_
      rintro e w2 ⟨rfl, hx2⟩
      rw [HR2.out]
      have HX2 := hid (HX1.out.trans hx2)
      have HC2 := hid (ext4 HC1.out hx2)
      clear hx2 x0 x1 y0 y1
      obtain ⟨x0, x1, y0, y1⟩ := HC2.out
      cases r2 with
      | false =>
        go_wp2_with fail
        refine (example_any _).mono ?_
        rintro e wz ⟨rfl, hxz⟩
        have HXZ := hid hxz; clear hxz
        go_wp2
        go_ret
        exact ⟨by simp, HE0.out.trans (HX2.out.trans HXZ.out)⟩
      | true =>
        have hf := HR.out
        have hf1 := HR1.out
        have hf2 := HR2.out
        unfold fewB at hf
        unfold fewHB at hf1 hf2
        simp only [Bool.and_eq_true, decide_eq_true_eq] at hf hf1 hf2
        obtain ⟨hn20, -⟩ := hf
        obtain ⟨hn30, -⟩ := hf1
        obtain ⟨hm30, -⟩ := hf2
        go_wp2_with fail
        have HXA0 := hid ((Ext.refl w2).drew)
        refine wp_region_held_drew (S := (fun w' => w'.cell? ⟨w.heap.size, 0, none⟩ = some (.slice A1 n1 c1) ∧ w'.cell? ⟨w.heap.size, 1, none⟩ = some (.slice B1 k1 d1) ∧ w'.cell? ⟨w.heap.size + 1, 0, none⟩ = some (.slice A2 n2 c2) ∧ w'.cell? ⟨w.heap.size + 1, 1, none⟩ = some (.slice B2 k2 d2))) (by kernel_rfl) ⟨x0, x1, y0, y1⟩ (fun hSA0 => ?_)
        refine wpAnyH_takeL (i := 0) (v := ?Av0x1) rfl (by kernel_rfl) (by kernel_rfl) (by kernel_rfl) (fun _ _ _ h => h) (Or.inl ⟨by rfl, ?Ay0x1⟩) (by assumption) ?Ar0x1
        case Ay0x1 => first | (intro w hSw; (try dsimp only at hSw); go_simp; done) | (intro w hSw; (try dsimp only at hSw); go_simp; with_reducible rfl)
        case' Ar0x1 => try simp only [Act.put, List.setIfInBounds_toArray, List.set_cons_zero, List.set_cons_succ]
        refine wpAnyH_takeL (i := 1) (v := ?Av1x2) rfl (by kernel_rfl) (by kernel_rfl) (by kernel_rfl) (fun _ _ _ h => h) (Or.inl ⟨by rfl, ?Ay1x2⟩) (by assumption) ?Ar1x2
        case Ay1x2 => first | (intro w hSw; (try dsimp only at hSw); go_simp; done) | (intro w hSw; (try dsimp only at hSw); go_simp; with_reducible rfl)
        case' Ar1x2 => try simp only [Act.put, List.setIfInBounds_toArray, List.set_cons_zero, List.set_cons_succ]
        refine wpAnyH_takeL (i := 2) (v := ?Av2x3) rfl (by kernel_rfl) (by kernel_rfl) (by kernel_rfl) (fun _ _ _ h => h) (Or.inl ⟨by rfl, ?Ay2x3⟩) (by assumption) ?Ar2x3
        case Ay2x3 => first | (intro w hSw; (try dsimp only at hSw); go_simp; done) | (intro w hSw; (try dsimp only at hSw); go_simp; with_reducible rfl)
        case' Ar2x3 => try simp only [Act.put, List.setIfInBounds_toArray, List.set_cons_zero, List.set_cons_succ]
        refine wpAnyH_takeL (i := 3) (v := ?Av3x4) rfl (by kernel_rfl) (by kernel_rfl) (by kernel_rfl) (fun _ _ _ h => h) (Or.inl ⟨by rfl, ?Ay3x4⟩) (by assumption) ?Ar3x4
        case Ay3x4 => first | (intro w hSw; (try dsimp only at hSw); go_simp; done) | (intro w hSw; (try dsimp only at hSw); go_simp; with_reducible rfl)
        case' Ar3x4 => try simp only [Act.put, List.setIfInBounds_toArray, List.set_cons_zero, List.set_cons_succ]
        refine wpAnyH_takeL (i := 4) (v := ?Av4x5) rfl (by kernel_rfl) (by kernel_rfl) (by kernel_rfl) (fun _ _ _ h => h) (Or.inl ⟨by rfl, ?Ay4x5⟩) (by assumption) ?Ar4x5
        case Ay4x5 => first | (intro w hSw; (try dsimp only at hSw); go_simp; done) | (intro w hSw; (try dsimp only at hSw); go_simp; with_reducible rfl)
        case' Ar4x5 => try simp only [Act.put, List.setIfInBounds_toArray, List.set_cons_zero, List.set_cons_succ]
        refine wpAnyH_takeL (i := 5) (v := ?Av5x6) rfl (by kernel_rfl) (by kernel_rfl) (by kernel_rfl) (fun _ _ _ h => h) (Or.inl ⟨by rfl, ?Ay5x6⟩) (by assumption) ?Ar5x6
        case Ay5x6 => first | (intro w hSw; (try dsimp only at hSw); go_simp; done) | (intro w hSw; (try dsimp only at hSw); go_simp; with_reducible rfl)
        case' Ar5x6 => try simp only [Act.put, List.setIfInBounds_toArray, List.set_cons_zero, List.set_cons_succ]
        refine wpAnyH_takeL (i := 6) (v := ?Av6x7) rfl (by kernel_rfl) (by kernel_rfl) (by kernel_rfl) (fun _ _ _ h => h) (Or.inl ⟨by rfl, ?Ay6x7⟩) (by assumption) ?Ar6x7
        case Ay6x7 => first | (intro w hSw; (try dsimp only at hSw); go_simp; done) | (intro w hSw; (try dsimp only at hSw); go_simp; with_reducible rfl)
        case' Ar6x7 => try simp only [Act.put, List.setIfInBounds_toArray, List.set_cons_zero, List.set_cons_succ]
        refine wpAnyH_takeL (i := 7) (v := ?Av7x8) rfl (by kernel_rfl) (by kernel_rfl) (by kernel_rfl) (fun _ _ _ h => h) (Or.inl ⟨by rfl, ?Ay7x8⟩) (by assumption) ?Ar7x8
        case Ay7x8 => first | (intro w hSw; (try dsimp only at hSw); go_simp; done) | (intro w hSw; (try dsimp only at hSw); go_simp; with_reducible rfl)
        case' Ar7x8 => try simp only [Act.put, List.setIfInBounds_toArray, List.set_cons_zero, List.set_cons_succ]
        refine wpAnyH_takeL (i := 8) (v := ?Av8x9) rfl (by kernel_rfl) (by kernel_rfl) (by kernel_rfl) (fun _ _ _ h => h) (Or.inl ⟨by rfl, ?Ay8x9⟩) (by assumption) ?Ar8x9
        case Ay8x9 => first | (intro w hSw; (try dsimp only at hSw); go_simp; done) | (intro w hSw; (try dsimp only at hSw); go_simp; with_reducible rfl)
        case' Ar8x9 => try simp only [Act.put, List.setIfInBounds_toArray, List.set_cons_zero, List.set_cons_succ]
        refine wpAnyH_takeL (i := 9) (v := ?Av9x10) rfl (by kernel_rfl) (by kernel_rfl) (by kernel_rfl) (fun _ _ _ h => h) (Or.inl ⟨by rfl, ?Ay9x10⟩) (by assumption) ?Ar9x10
        case Ay9x10 => first | (intro w hSw; (try dsimp only at hSw); go_simp; done) | (intro w hSw; (try dsimp only at hSw); go_simp; with_reducible rfl)
        case' Ar9x10 => try simp only [Act.put, List.setIfInBounds_toArray, List.set_cons_zero, List.set_cons_succ]
        refine wpAnyH_ready (rs := [10, 11]) (by kernel_rfl) (by simp) ?_
        refine (AllReadyH.consL rfl (fun K hK => ?Ab10x11) (AllReadyH.consL rfl (fun K hK => ?Ab11x11) AllReadyH.nil))
        case' Ab10x11 =>
          go_simp
          have HXA1 := hid (HXA0.out.alloc (.cells #[.slice none 0 0, .slice none 0 0] 31))
          refine hK.out _ _ (ext4 HC2.out HXA1.out) (fun hSA1 => ?_)
          clear hK K
          try simp only [Act.put, List.setIfInBounds_toArray, List.set_cons_zero, List.set_cons_succ]
          refine wpAnyH_ready (rs := [11]) (by kernel_rfl) (by simp) ?_
          refine (AllReadyH.consL rfl (fun K hK => ?Ab11x12) AllReadyH.nil)
          case' Ab11x12 =>
            go_simp
            have HXA2 := hid (HXA1.out.alloc (.cells #[.slice none 0 0, .slice none 0 0] 31))
            refine hK.out _ _ (ext4 HC2.out HXA2.out) (fun hSA2 => ?_)
            clear hK K
            try simp only [Act.put, List.setIfInBounds_toArray, List.set_cons_zero, List.set_cons_succ]
            refine wpAnyH_ready (rs := [12]) (by kernel_rfl) (by simp) ?_
            refine (AllReadyH.consL rfl (fun K hK => ?Ab12x13) AllReadyH.nil)
            case' Ab12x13 =>
              go_simp
              refine hK.out _ _ (ext4 HC2.out (by first | exact (HXA2.out.setCell (by simp <;> omega) _).setCell (by simp <;> omega) _ | exact ((Ext.refl w2).drew.alloc _).alloc _)) (fun hSA3 => ?_)
              clear hK K
              try simp only [Act.put, List.setIfInBounds_toArray, List.set_cons_zero, List.set_cons_succ]
              refine wpAnyH_ready (rs := [13]) (by kernel_rfl) (by simp) ?_
              refine (AllReadyH.consL rfl (fun K hK => ?Ab13x14) AllReadyH.nil)
              case' Ab13x14 =>
                go_simp
                refine hK.out _ _ (ext4 HC2.out (by first | exact (((HXA2.out.setCell (by simp <;> omega) _).setCell (by simp <;> omega) _).setCell (by simp <;> omega) _).setCell (by simp <;> omega) _ | exact ((((Ext.refl w2).drew.alloc _).alloc _).setCell (by simp <;> omega) _).setCell (by simp <;> omega) _ | exact ((Ext.refl w2).drew.alloc _).alloc _)) (fun hSA4 => ?_)
                clear hK K
                try simp only [Act.put, List.setIfInBounds_toArray, List.set_cons_zero, List.set_cons_succ]
                refine wpAnyH_done (by kernel_rfl) ?_ _
                go_wp2_with fail
                have hE3 : Ext w2 ((w2.alloc (Obj.cells #[.slice A1 n1 c1, .slice B1 k1 d1] 31)).alloc (Obj.cells #[.slice A2 n2 c2, .slice B2 k2 d2] 31)).drew := by first
                  | exact (((Ext.refl w2).alloc _).alloc _).drew
                  | exact ((Ext.refl w2).drew.alloc _).alloc _
                have z0 : (((w2.alloc (Obj.cells #[.slice A1 n1 c1, .slice B1 k1 d1] 31)).alloc (Obj.cells #[.slice A2 n2 c2, .slice B2 k2 d2] 31)).drew).cell? ⟨w2.heap.size, 0, none⟩ = some (.slice A1 n1 c1) := by simp [go_sem]
                have z1 : (((w2.alloc (Obj.cells #[.slice A1 n1 c1, .slice B1 k1 d1] 31)).alloc (Obj.cells #[.slice A2 n2 c2, .slice B2 k2 d2] 31)).drew).cell? ⟨w2.heap.size, 1, none⟩ = some (.slice B1 k1 d1) := by simp [go_sem]
                have z2 : (((w2.alloc (Obj.cells #[.slice A1 n1 c1, .slice B1 k1 d1] 31)).alloc (Obj.cells #[.slice A2 n2 c2, .slice B2 k2 d2] 31)).drew).cell? ⟨w2.heap.size + 1, 0, none⟩ = some (.slice A2 n2 c2) := by simp [go_sem]
                have z3 : (((w2.alloc (Obj.cells #[.slice A1 n1 c1, .slice B1 k1 d1] 31)).alloc (Obj.cells #[.slice A2 n2 c2, .slice B2 k2 d2] 31)).drew).cell? ⟨w2.heap.size + 1, 1, none⟩ = some (.slice B2 k2 d2) := by simp [go_sem]
                obtain ⟨W3, hW3⟩ : ∃ W3, ((w2.alloc (Obj.cells #[.slice A1 n1 c1, .slice B1 k1 d1] 31)).alloc (Obj.cells #[.slice A2 n2 c2, .slice B2 k2 d2] 31)).drew = W3 := ⟨_, rfl⟩
                rw [hW3] at hE3 z0 z1 z2 z3
                try rw [hW3]
                have HC3 := hid (ext4 HC2.out hE3)
                have HZ3 := hid (And.intro z0 (And.intro z1 (And.intro z2 z3)))
                have HX3 := hid (HX2.out.trans hE3)
                clear hE3 z0 z1 z2 z3 hW3 x0 x1 y0 y1
                refine (merge_any W3 A1 B1 A2 B2 n1 c1 k1 d1 n2 c2 k2 d2 bl1 bl2 hs1 hs2 (HB1.out.ext HX3.out) (HH1.out.ext HX3.out) (HB2.out.ext HX3.out) (HH2.out.ext HX3.out) (by omega) (by omega)).mono ?_
                rintro e w4 ⟨hx4, A3, c3, A4, c4, rfl, hs3, hs4⟩
                have HSM := hid (mrg_same bl1 hs1 bl2 hs2)
                have HCM := hid (mergeP_comm bl2 hs2 bl1 hs1)
                obtain ⟨CB, hCB⟩ : ∃ CB, covB (mergeP bl1 hs1 bl2 hs2) = CB := ⟨_, rfl⟩
                obtain ⟨CH, hCH⟩ : ∃ CH, covH (mergeP bl1 hs1 bl2 hs2) = CH := ⟨_, rfl⟩
                rw [hCB] at hs3 hs4 HSM HCM ⊢
                rw [hCH] at hs4 HSM HCM
                have HX4 := hid (HX3.out.trans hx4)
                have HC4 := hid (ext4 HC3.out hx4)
                have HZ4 := hid (ext4 HZ3.out hx4)
                have HS3 := hid hs3
                have HS4 := hid hs4
                obtain ⟨N, hN⟩ : ∃ N, CB.length = N := ⟨_, rfl⟩
                rw [hN] at HS3 HS4 hs4 ⊢
                have HN := hid hN
                clear hx4 hs3 hs4 hCB hCH hN
                go_wp2_with fail
                refine (toRef_any w4 A3 A4 N c3 N c4).mono ?_
                rintro e w5 ⟨rfl, hx5⟩
                have HX5 := hid (HX4.out.trans hx5)
                have HC5 := hid (ext4 HC4.out hx5)
                have HZ5 := hid (ext4 HZ4.out hx5)
                have HS35 := hid (HS3.out.ext hx5)
                have HS45 := hid (HS4.out.ext hx5)
                have hE6 : Ext w5 (w5.alloc (.cells #[.slice A3 N c3, .slice A4 N c4] 29)) := (Ext.refl w5).alloc _
                have t0 : (w5.alloc (.cells #[.slice A3 N c3, .slice A4 N c4] 29)).cell? ⟨w5.heap.size, 0, none⟩ = some (.slice A3 N c3) := by simp [go_sem]
                have t1 : (w5.alloc (.cells #[.slice A3 N c3, .slice A4 N c4] 29)).cell? ⟨w5.heap.size, 1, none⟩ = some (.slice A4 N c4) := by simp [go_sem]
                clear hx5
                go_wp2_with fail
                obtain ⟨W6, hW6⟩ : ∃ W6, w5.alloc (.cells #[.slice A3 N c3, .slice A4 N c4] 29) = W6 := ⟨_, rfl⟩
                rw [hW6] at hE6 t0 t1
                try rw [hW6]
                have HX6 := hid (HX5.out.trans hE6)
                have hc6 := ext4 HC5.out hE6
                have hz6 := ext4 HZ5.out hE6
                have HB16 := hid (HB1.out.ext HX6.out)
                have HH16 := hid (HH1.out.ext HX6.out)
                have HB26 := hid (HB2.out.ext HX6.out)
                have HH26 := hid (HH2.out.ext HX6.out)
                have HL6 := hid (HL.out.ext HX6.out)
                have HS36 := hid (HS35.out.ext hE6)
                have HS46 := hid (HS45.out.ext hE6)
                obtain ⟨x0, x1, y0, y1⟩ := hc6
                obtain ⟨z0, z1, z2, z3⟩ := hz6
                have HC10 := hid (And.intro t0 (And.intro t1 (And.intro x0 (And.intro x1 (And.intro y0 (And.intro y1 (And.intro z0 (And.intro z1 (And.intro z2 z3)))))))))
                clear hW6 hE6
                have HXFa_0 := hid ((Ext.refl W6).drew)
                refine wp_region_held_drew (S := (fun w' => w'.cell? ⟨w5.heap.size, 0, none⟩ = some (.slice A3 N c3) ∧ w'.cell? ⟨w5.heap.size, 1, none⟩ = some (.slice A4 N c4) ∧ w'.cell? ⟨w.heap.size, 0, none⟩ = some (.slice A1 n1 c1) ∧ w'.cell? ⟨w.heap.size, 1, none⟩ = some (.slice B1 k1 d1) ∧ w'.cell? ⟨w.heap.size + 1, 0, none⟩ = some (.slice A2 n2 c2) ∧ w'.cell? ⟨w.heap.size + 1, 1, none⟩ = some (.slice B2 k2 d2) ∧ w'.cell? ⟨w2.heap.size, 0, none⟩ = some (.slice A1 n1 c1) ∧ w'.cell? ⟨w2.heap.size, 1, none⟩ = some (.slice B1 k1 d1) ∧ w'.cell? ⟨w2.heap.size + 1, 0, none⟩ = some (.slice A2 n2 c2) ∧ w'.cell? ⟨w2.heap.size + 1, 1, none⟩ = some (.slice B2 k2 d2))) (by kernel_rfl) ⟨t0, t1, x0, x1, y0, y1, z0, z1, z2, z3⟩ (fun hSFa0 => ?_)
                refine wpAnyH_takeL (i := 0) (v := ?Fav0x1) rfl (by kernel_rfl) (by kernel_rfl) (by kernel_rfl) (fun _ _ _ h => h) (Or.inl ⟨by rfl, ?Fay0x1⟩) (by assumption) ?Far0x1
                case Fay0x1 => first | (intro w hSw; (try dsimp only at hSw); go_simp; done) | (intro w hSw; (try dsimp only at hSw); go_simp; with_reducible rfl)
                case' Far0x1 => try simp only [Act.put, List.setIfInBounds_toArray, List.set_cons_zero, List.set_cons_succ]
                refine wpAnyH_takeL (i := 1) (v := ?Fav1x2) rfl (by kernel_rfl) (by kernel_rfl) (by kernel_rfl) (fun _ _ _ h => h) (Or.inl ⟨by rfl, ?Fay1x2⟩) (by assumption) ?Far1x2
                case Fay1x2 => first | (intro w hSw; (try dsimp only at hSw); go_simp; done) | (intro w hSw; (try dsimp only at hSw); go_simp; with_reducible rfl)
                case' Far1x2 => try simp only [Act.put, List.setIfInBounds_toArray, List.set_cons_zero, List.set_cons_succ]
                refine wpAnyH_takeL (i := 2) (v := ?Fav2x3) rfl (by kernel_rfl) (by kernel_rfl) (by kernel_rfl) (fun _ _ _ h => h) (Or.inl ⟨by rfl, ?Fay2x3⟩) (by assumption) ?Far2x3
                case Fay2x3 => first | (intro w hSw; (try dsimp only at hSw); go_simp; done) | (intro w hSw; (try dsimp only at hSw); go_simp; with_reducible rfl)
                case' Far2x3 => try simp only [Act.put, List.setIfInBounds_toArray, List.set_cons_zero, List.set_cons_succ]
                refine wpAnyH_ready (rs := [3]) (by kernel_rfl) (by simp) ?_
                refine (AllReadyH.consL rfl (fun K hK => ?Fab3x4) AllReadyH.nil)
                case' Fab3x4 =>
                  go_simp
                  go_at_call 31
                  refine (rmerge_any _ A1 B1 A2 B2 n1 c1 k1 d1 n2 c2 k2 d2 bl1 bl2 hs1 hs2 (HB16.out.ext HXFa_0.out) (HH16.out.ext HXFa_0.out) (HB26.out.ext HXFa_0.out) (HH26.out.ext HXFa_0.out) (by omega) (by omega)).mono ?_
                  rintro e w7 ⟨hEFa1, A7, c7, A8, c8, rfl, hs7, hs8⟩
                  rw [← HSM.out.1, HN.out] at hs7 hs8
                  rw [← HSM.out.2] at hs8
                  rw [← HSM.out.1, HN.out]
                  have HS7 := hid hs7
                  have HS8 := hid hs8
                  clear hs7 hs8
                  have HXFa_1 := hid (HXFa_0.out.trans hEFa1)
                  clear hEFa1
                  refine hK.out _ _ (ext10 HC10.out HXFa_1.out) (fun hSFa1 => ?_)
                  clear hK K
                  try simp only [Act.put, List.setIfInBounds_toArray, List.set_cons_zero, List.set_cons_succ]
                  refine wpAnyH_ready (rs := [4]) (by kernel_rfl) (by simp) ?_
                  refine (AllReadyH.consL rfl (fun K hK => ?Fab4x5) AllReadyH.nil)
                  case' Fab4x5 =>
                    go_simp
                    go_at_call 12
                    refine (same_any _ A3 A7 A4 A8 N c3 c7 N c4 c8 CB CH (HS36.out.ext HXFa_1.out) HS7.out (HS46.out.ext HXFa_1.out) HS8.out).mono ?_
                    rintro e w8 ⟨rfl, hEFa2⟩
                    have HXFa_2 := hid (HXFa_1.out.trans hEFa2)
                    have HS7 := hid (HS7.out.ext hEFa2)
                    have HS8 := hid (HS8.out.ext hEFa2)
                    clear hEFa2
                    refine hK.out _ _ (ext10 HC10.out HXFa_2.out) (fun hSFa2 => ?_)
                    clear hK K
                    try simp only [Act.put, List.setIfInBounds_toArray, List.set_cons_zero, List.set_cons_succ]
                    refine wpAnyH_takeL (i := 5) (v := ?Fav5x6) rfl (by kernel_rfl) (by kernel_rfl) (by kernel_rfl) (fun _ _ _ h => h) (Or.inl ⟨by rfl, ?Fay5x6⟩) (by assumption) ?Far5x6
                    case Fay5x6 => first | (intro w hSw; (try dsimp only at hSw); go_simp; done) | (intro w hSw; (try dsimp only at hSw); go_simp; with_reducible rfl)
                    case' Far5x6 => try simp only [Act.put, List.setIfInBounds_toArray, List.set_cons_zero, List.set_cons_succ]
                    refine wpAnyH_takeL (i := 6) (v := ?Fav6x7) rfl (by kernel_rfl) (by kernel_rfl) (by kernel_rfl) (fun _ _ _ h => h) (Or.inl ⟨by rfl, ?Fay6x7⟩) (by assumption) ?Far6x7
                    case Fay6x7 => first | (intro w hSw; (try dsimp only at hSw); go_simp; done) | (intro w hSw; (try dsimp only at hSw); go_simp; with_reducible rfl)
                    case' Far6x7 => try simp only [Act.put, List.setIfInBounds_toArray, List.set_cons_zero, List.set_cons_succ]
                    refine wpAnyH_takeL (i := 7) (v := ?Fav7x8) rfl (by kernel_rfl) (by kernel_rfl) (by kernel_rfl) (fun _ _ _ h => h) (Or.inl ⟨by rfl, ?Fay7x8⟩) (by assumption) ?Far7x8
                    case Fay7x8 => first | (intro w hSw; (try dsimp only at hSw); go_simp; done) | (intro w hSw; (try dsimp only at hSw); go_simp; with_reducible rfl)
                    case' Far7x8 => try simp only [Act.put, List.setIfInBounds_toArray, List.set_cons_zero, List.set_cons_succ]
                    refine wpAnyH_takeL (i := 8) (v := ?Fav8x9) rfl (by kernel_rfl) (by kernel_rfl) (by kernel_rfl) (fun _ _ _ h => h) (Or.inl ⟨by rfl, ?Fay8x9⟩) (by assumption) ?Far8x9
                    case Fay8x9 => first | (intro w hSw; (try dsimp only at hSw); go_simp; done) | (intro w hSw; (try dsimp only at hSw); go_simp; with_reducible rfl)
                    case' Far8x9 => try simp only [Act.put, List.setIfInBounds_toArray, List.set_cons_zero, List.set_cons_succ]
                    refine wpAnyH_ready (rs := [9]) (by kernel_rfl) (by simp) ?_
                    refine (AllReadyH.consL rfl (fun K hK => ?Fab9x10) AllReadyH.nil)
                    case' Fab9x10 =>
                      go_simp
                      go_at_call 29
                      refine (merge_any _ A2 B2 A1 B1 n2 c2 k2 d2 n1 c1 k1 d1 bl2 bl1 hs2 hs1 (HB26.out.ext HXFa_2.out) (HH26.out.ext HXFa_2.out) (HB16.out.ext HXFa_2.out) (HH16.out.ext HXFa_2.out) (by omega) (by omega)).mono ?_
                      rintro e w9 ⟨hEFa3, A9, c9, A10, c10, rfl, hs9, hs10⟩
                      rw [HCM.out.1, HN.out] at hs9 hs10
                      rw [HCM.out.2] at hs10
                      rw [HCM.out.1, HN.out]
                      have HS9 := hid hs9
                      have HS10 := hid hs10
                      clear hs9 hs10
                      have HXFa_3 := hid (HXFa_2.out.trans hEFa3)
                      have HS7 := hid (HS7.out.ext hEFa3)
                      have HS8 := hid (HS8.out.ext hEFa3)
                      clear hEFa3
                      refine hK.out _ _ (ext10 HC10.out HXFa_3.out) (fun hSFa3 => ?_)
                      clear hK K
                      try simp only [Act.put, List.setIfInBounds_toArray, List.set_cons_zero, List.set_cons_succ]
                      refine wpAnyH_ready (rs := [10]) (by kernel_rfl) (by simp) ?_
                      refine (AllReadyH.consL rfl (fun K hK => ?Fab10x11) AllReadyH.nil)
                      case' Fab10x11 =>
                        go_simp
                        go_at_call 13
                        refine (toRef_any _ A9 A10 N c9 N c10).mono ?_
                        rintro e w10 ⟨rfl, hEFa4⟩
                        have HXFa_4 := hid (HXFa_3.out.trans hEFa4)
                        have HS7 := hid (HS7.out.ext hEFa4)
                        have HS8 := hid (HS8.out.ext hEFa4)
                        have HS9 := hid (HS9.out.ext hEFa4)
                        have HS10 := hid (HS10.out.ext hEFa4)
                        clear hEFa4
                        refine hK.out _ _ (ext10 HC10.out HXFa_4.out) (fun hSFa4 => ?_)
                        clear hK K
                        try simp only [Act.put, List.setIfInBounds_toArray, List.set_cons_zero, List.set_cons_succ]
                        refine wpAnyH_ready (rs := [11]) (by kernel_rfl) (by simp) ?_
                        refine (AllReadyH.consL rfl (fun K hK => ?Fab11x12) AllReadyH.nil)
                        case' Fab11x12 =>
                          go_simp
                          go_at_call 12
                          refine (same_any _ A3 A9 A4 A10 N c3 c9 N c4 c10 CB CH (HS36.out.ext HXFa_4.out) HS9.out (HS46.out.ext HXFa_4.out) HS10.out).mono ?_
                          rintro e w11 ⟨rfl, hEFa5⟩
                          have HXFa_5 := hid (HXFa_4.out.trans hEFa5)
                          have HS7 := hid (HS7.out.ext hEFa5)
                          have HS8 := hid (HS8.out.ext hEFa5)
                          have HS9 := hid (HS9.out.ext hEFa5)
                          have HS10 := hid (HS10.out.ext hEFa5)
                          clear hEFa5
                          refine hK.out _ _ (ext10 HC10.out HXFa_5.out) (fun hSFa5 => ?_)
                          clear hK K
                          try simp only [Act.put, List.setIfInBounds_toArray, List.set_cons_zero, List.set_cons_succ]
                          refine wpAnyH_takeL (i := 12) (v := ?Fav12x13) rfl (by kernel_rfl) (by kernel_rfl) (by kernel_rfl) (fun _ _ _ h => h) (Or.inl ⟨by rfl, ?Fay12x13⟩) (by assumption) ?Far12x13
                          case Fay12x13 => first | (intro w hSw; (try dsimp only at hSw); go_simp; done) | (intro w hSw; (try dsimp only at hSw); go_simp; with_reducible rfl)
                          case' Far12x13 => try simp only [Act.put, List.setIfInBounds_toArray, List.set_cons_zero, List.set_cons_succ]
                          refine wpAnyH_takeL (i := 13) (v := ?Fav13x14) rfl (by kernel_rfl) (by kernel_rfl) (by kernel_rfl) (fun _ _ _ h => h) (Or.inl ⟨by rfl, ?Fay13x14⟩) (by assumption) ?Far13x14
                          case Fay13x14 => first | (intro w hSw; (try dsimp only at hSw); go_simp; done) | (intro w hSw; (try dsimp only at hSw); go_simp; with_reducible rfl)
                          case' Far13x14 => try simp only [Act.put, List.setIfInBounds_toArray, List.set_cons_zero, List.set_cons_succ]
                          refine wpAnyH_takeL (i := 14) (v := ?Fav14x15) rfl (by kernel_rfl) (by kernel_rfl) (by kernel_rfl) (fun _ _ _ h => h) (Or.inl ⟨by rfl, ?Fay14x15⟩) (by assumption) ?Far14x15
                          case Fay14x15 => first | (intro w hSw; (try dsimp only at hSw); go_simp; done) | (intro w hSw; (try dsimp only at hSw); go_simp; with_reducible rfl)
                          case' Far14x15 => try simp only [Act.put, List.setIfInBounds_toArray, List.set_cons_zero, List.set_cons_succ]
                          refine wpAnyH_takeL (i := 16) (v := ?Fav16x16) rfl (by kernel_rfl) (by kernel_rfl) (by kernel_rfl) (fun _ _ _ h => h) (Or.inl ⟨by rfl, ?Fay16x16⟩) (by assumption) ?Far16x16
                          case Fay16x16 => first | (intro w hSw; (try dsimp only at hSw); go_simp; done) | (intro w hSw; (try dsimp only at hSw); go_simp; with_reducible rfl)
                          case' Far16x16 => try simp only [Act.put, List.setIfInBounds_toArray, List.set_cons_zero, List.set_cons_succ]
                          refine wpAnyH_takeL (i := 18) (v := ?Fav18x17) rfl (by kernel_rfl) (by kernel_rfl) (by kernel_rfl) (fun _ _ _ h => h) (Or.inl ⟨by rfl, ?Fay18x17⟩) (by assumption) ?Far18x17
                          case Fay18x17 => first | (intro w hSw; (try dsimp only at hSw); go_simp; done) | (intro w hSw; (try dsimp only at hSw); go_simp; with_reducible rfl)
                          case' Far18x17 => try simp only [Act.put, List.setIfInBounds_toArray, List.set_cons_zero, List.set_cons_succ]
                          refine wpAnyH_takeL (i := 19) (v := ?Fav19x18) rfl (by kernel_rfl) (by kernel_rfl) (by kernel_rfl) (fun _ _ _ h => h) (Or.inl ⟨by rfl, ?Fay19x18⟩) (by assumption) ?Far19x18
                          case Fay19x18 => first | (intro w hSw; (try dsimp only at hSw); go_simp; done) | (intro w hSw; (try dsimp only at hSw); go_simp; with_reducible rfl)
                          case' Far19x18 => try simp only [Act.put, List.setIfInBounds_toArray, List.set_cons_zero, List.set_cons_succ]
                          refine wpAnyH_ready (rs := [15]) (by kernel_rfl) (by simp) ?_
                          refine (AllReadyH.consL rfl (fun K hK => ?Fab15x19) AllReadyH.nil)
                          case' Fab15x19 =>
                            go_simp
                            go_at_call 15
                            refine (basics_any _ A n c l (HL6.out.ext HXFa_5.out) (by omega)).mono ?_
                            rintro e w12 ⟨hEFa6, A12, c12, rfl, hs12⟩
                            have HS12 := hid hs12
                            clear hs12
                            have HXFa_6 := hid (HXFa_5.out.trans hEFa6)
                            have HS7 := hid (HS7.out.ext hEFa6)
                            have HS8 := hid (HS8.out.ext hEFa6)
                            have HS9 := hid (HS9.out.ext hEFa6)
                            have HS10 := hid (HS10.out.ext hEFa6)
                            clear hEFa6
                            refine hK.out _ _ (ext10 HC10.out HXFa_6.out) (fun hSFa6 => ?_)
                            clear hK K
                            try simp only [Act.put, List.setIfInBounds_toArray, List.set_cons_zero, List.set_cons_succ]
                            refine wpAnyH_ready (rs := [17]) (by kernel_rfl) (by simp) ?_
                            refine (AllReadyH.consL rfl (fun K hK => ?Fab17x20) AllReadyH.nil)
                            case' Fab17x20 =>
                              go_simp
                              go_at_call 27
                              refine (missed_any _ A12 A1 B1 l.length c12 n1 c1 k1 d1 l bl1 HS12.out (HB16.out.ext HXFa_6.out) (by have := HLN.out; omega) (by omega)).mono ?_
                              rintro e w13 ⟨hEFa7, A13, c13, rfl, hs13⟩
                              have HS13 := hid hs13
                              clear hs13
                              have HXFa_7 := hid (HXFa_6.out.trans hEFa7)
                              have HS7 := hid (HS7.out.ext hEFa7)
                              have HS8 := hid (HS8.out.ext hEFa7)
                              have HS9 := hid (HS9.out.ext hEFa7)
                              have HS10 := hid (HS10.out.ext hEFa7)
                              have HS12 := hid (HS12.out.ext hEFa7)
                              clear hEFa7
                              refine hK.out _ _ (ext10 HC10.out HXFa_7.out) (fun hSFa7 => ?_)
                              clear hK K
                              try simp only [Act.put, List.setIfInBounds_toArray, List.set_cons_zero, List.set_cons_succ]
                              refine wpAnyH_ready (rs := [20]) (by kernel_rfl) (by simp) ?_
                              refine (AllReadyH.consL rfl (fun K hK => ?Fab20x21) AllReadyH.nil)
                              case' Fab20x21 =>
                                go_simp
                                go_at_call 32
                                refine (rmissed_any _ A A1 B1 n c n1 c1 k1 d1 l bl1 (HL6.out.ext HXFa_7.out) (HB16.out.ext HXFa_7.out) (by omega)).mono ?_
                                rintro e w14 ⟨hEFa8, A14, c14, rfl, hs14⟩
                                have HS14 := hid hs14
                                clear hs14
                                have HXFa_8 := hid (HXFa_7.out.trans hEFa8)
                                have HS7 := hid (HS7.out.ext hEFa8)
                                have HS8 := hid (HS8.out.ext hEFa8)
                                have HS9 := hid (HS9.out.ext hEFa8)
                                have HS10 := hid (HS10.out.ext hEFa8)
                                have HS12 := hid (HS12.out.ext hEFa8)
                                have HS13 := hid (HS13.out.ext hEFa8)
                                clear hEFa8
                                refine hK.out _ _ (ext10 HC10.out HXFa_8.out) (fun hSFa8 => ?_)
                                clear hK K
                                try simp only [Act.put, List.setIfInBounds_toArray, List.set_cons_zero, List.set_cons_succ]
                                refine wpAnyH_ready (rs := [21]) (by kernel_rfl) (by simp) ?_
                                refine (AllReadyH.consL rfl (fun K hK => ?Fab21x22) AllReadyH.nil)
                                case' Fab21x22 =>
                                  go_simp
                                  go_at_call 24
                                  refine (words_any _ _ (Ext.refl _) A13 A14 _ _ c13 c14 (missedOf l bl1) (missedOf l bl1) HS13.out HS14.out).mono ?_
                                  rintro e w15 ⟨rfl, hEFa9⟩
                                  rw [show decide (missedOf l bl1 = missedOf l bl1) = true by simp]
                                  have HXFa_9 := hid (HXFa_8.out.trans hEFa9)
                                  have HS7 := hid (HS7.out.ext hEFa9)
                                  have HS8 := hid (HS8.out.ext hEFa9)
                                  have HS9 := hid (HS9.out.ext hEFa9)
                                  have HS10 := hid (HS10.out.ext hEFa9)
                                  have HS12 := hid (HS12.out.ext hEFa9)
                                  have HS13 := hid (HS13.out.ext hEFa9)
                                  have HS14 := hid (HS14.out.ext hEFa9)
                                  clear hEFa9
                                  refine hK.out _ _ (ext10 HC10.out HXFa_9.out) (fun hSFa9 => ?_)
                                  clear hK K
                                  try simp only [Act.put, List.setIfInBounds_toArray, List.set_cons_zero, List.set_cons_succ]
                                  refine wpAnyH_takeL (i := 22) (v := ?Fav22x23) rfl (by kernel_rfl) (by kernel_rfl) (by kernel_rfl) (fun _ _ _ h => h) (Or.inl ⟨by rfl, ?Fay22x23⟩) (by assumption) ?Far22x23
                                  case Fay22x23 => first | (intro w hSw; (try dsimp only at hSw); go_simp; done) | (intro w hSw; (try dsimp only at hSw); go_simp; with_reducible rfl)
                                  case' Far22x23 => try simp only [Act.put, List.setIfInBounds_toArray, List.set_cons_zero, List.set_cons_succ]
                                  refine wpAnyH_takeL (i := 23) (v := ?Fav23x24) rfl (by kernel_rfl) (by kernel_rfl) (by kernel_rfl) (fun _ _ _ h => h) (Or.inl ⟨by rfl, ?Fay23x24⟩) (by assumption) ?Far23x24
                                  case Fay23x24 => first | (intro w hSw; (try dsimp only at hSw); go_simp; done) | (intro w hSw; (try dsimp only at hSw); go_simp; with_reducible rfl)
                                  case' Far23x24 => try simp only [Act.put, List.setIfInBounds_toArray, List.set_cons_zero, List.set_cons_succ]
                                  refine wpAnyH_ready (rs := [24]) (by kernel_rfl) (by simp) ?_
                                  refine (AllReadyH.consL rfl (fun K hK => ?Fab24x25) AllReadyH.nil)
                                  case' Fab24x25 =>
                                    go_simp
                                    go_at_call 11
                                    refine (example_any _).mono ?_
                                    rintro e w16 ⟨rfl, hEFa10⟩
                                    have HXFa_10 := hid (HXFa_9.out.trans hEFa10)
                                    have HS7 := hid (HS7.out.ext hEFa10)
                                    have HS8 := hid (HS8.out.ext hEFa10)
                                    have HS9 := hid (HS9.out.ext hEFa10)
                                    have HS10 := hid (HS10.out.ext hEFa10)
                                    have HS12 := hid (HS12.out.ext hEFa10)
                                    have HS13 := hid (HS13.out.ext hEFa10)
                                    have HS14 := hid (HS14.out.ext hEFa10)
                                    clear hEFa10
                                    refine hK.out _ _ (ext10 HC10.out HXFa_10.out) (fun hSFa10 => ?_)
                                    clear hK K
                                    try simp only [Act.put, List.setIfInBounds_toArray, List.set_cons_zero, List.set_cons_succ]
                                    refine wpAnyH_takeL (i := 25) (v := ?Fav25x26) rfl (by kernel_rfl) (by kernel_rfl) (by kernel_rfl) (fun _ _ _ h => h) (Or.inl ⟨by rfl, ?Fay25x26⟩) (by assumption) ?Far25x26
                                    case Fay25x26 => first | (intro w hSw; (try dsimp only at hSw); go_simp; done) | (intro w hSw; (try dsimp only at hSw); go_simp; with_reducible rfl)
                                    case' Far25x26 => try simp only [Act.put, List.setIfInBounds_toArray, List.set_cons_zero, List.set_cons_succ]
                                    refine wpAnyH_takeL (i := 26) (v := ?Fav26x27) rfl (by kernel_rfl) (by kernel_rfl) (by kernel_rfl) (fun _ _ _ h => h) (Or.inl ⟨by rfl, ?Fay26x27⟩) (by assumption) ?Far26x27
                                    case Fay26x27 => first | (intro w hSw; (try dsimp only at hSw); go_simp; done) | (intro w hSw; (try dsimp only at hSw); go_simp; with_reducible rfl)
                                    case' Far26x27 => try simp only [Act.put, List.setIfInBounds_toArray, List.set_cons_zero, List.set_cons_succ]
                                    have HXend := HXFa_10
                                    refine wpAnyH_done (by kernel_rfl) ?_ _
                go_wp2
                go_ret
                exact ⟨by simp, HE0.out.trans (HX6.out.trans HXend.out)⟩
        case' Ab11x11 =>
          go_simp
          have HXA1 := hid (HXA0.out.alloc (.cells #[.slice none 0 0, .slice none 0 0] 31))
          refine hK.out _ _ (ext4 HC2.out HXA1.out) (fun hSA1 => ?_)
          clear hK K
          try simp only [Act.put, List.setIfInBounds_toArray, List.set_cons_zero, List.set_cons_succ]
          refine wpAnyH_ready (rs := [10]) (by kernel_rfl) (by simp) ?_
          refine (AllReadyH.consL rfl (fun K hK => ?Ab10x15) AllReadyH.nil)
          case' Ab10x15 =>
            go_simp
            have HXA2 := hid (HXA1.out.alloc (.cells #[.slice none 0 0, .slice none 0 0] 31))
            refine hK.out _ _ (ext4 HC2.out HXA2.out) (fun hSA2 => ?_)
            clear hK K
            try simp only [Act.put, List.setIfInBounds_toArray, List.set_cons_zero, List.set_cons_succ]
            refine wpAnyH_ready (rs := [12]) (by kernel_rfl) (by simp) ?_
            refine (AllReadyH.consL rfl (fun K hK => ?Ab12x16) AllReadyH.nil)
            case' Ab12x16 =>
              go_simp
              refine hK.out _ _ (ext4 HC2.out (by first | exact (HXA2.out.setCell (by simp <;> omega) _).setCell (by simp <;> omega) _ | exact ((Ext.refl w2).drew.alloc _).alloc _)) (fun hSA3 => ?_)
              clear hK K
              try simp only [Act.put, List.setIfInBounds_toArray, List.set_cons_zero, List.set_cons_succ]
              refine wpAnyH_ready (rs := [13]) (by kernel_rfl) (by simp) ?_
              refine (AllReadyH.consL rfl (fun K hK => ?Ab13x17) AllReadyH.nil)
              case' Ab13x17 =>
                go_simp
                refine hK.out _ _ (ext4 HC2.out (by first | exact (((HXA2.out.setCell (by simp <;> omega) _).setCell (by simp <;> omega) _).setCell (by simp <;> omega) _).setCell (by simp <;> omega) _ | exact ((((Ext.refl w2).drew.alloc _).alloc _).setCell (by simp <;> omega) _).setCell (by simp <;> omega) _ | exact ((Ext.refl w2).drew.alloc _).alloc _)) (fun hSA4 => ?_)
                clear hK K
                try simp only [Act.put, List.setIfInBounds_toArray, List.set_cons_zero, List.set_cons_succ]
                refine wpAnyH_done (by kernel_rfl) ?_ _
                go_wp2_with fail
                have hE3 : Ext w2 ((w2.alloc (Obj.cells #[.slice A2 n2 c2, .slice B2 k2 d2] 31)).alloc (Obj.cells #[.slice A1 n1 c1, .slice B1 k1 d1] 31)).drew := by first
                  | exact (((Ext.refl w2).alloc _).alloc _).drew
                  | exact ((Ext.refl w2).drew.alloc _).alloc _
                have z0 : (((w2.alloc (Obj.cells #[.slice A2 n2 c2, .slice B2 k2 d2] 31)).alloc (Obj.cells #[.slice A1 n1 c1, .slice B1 k1 d1] 31)).drew).cell? ⟨w2.heap.size + 1, 0, none⟩ = some (.slice A1 n1 c1) := by simp [go_sem]
                have z1 : (((w2.alloc (Obj.cells #[.slice A2 n2 c2, .slice B2 k2 d2] 31)).alloc (Obj.cells #[.slice A1 n1 c1, .slice B1 k1 d1] 31)).drew).cell? ⟨w2.heap.size + 1, 1, none⟩ = some (.slice B1 k1 d1) := by simp [go_sem]
                have z2 : (((w2.alloc (Obj.cells #[.slice A2 n2 c2, .slice B2 k2 d2] 31)).alloc (Obj.cells #[.slice A1 n1 c1, .slice B1 k1 d1] 31)).drew).cell? ⟨w2.heap.size, 0, none⟩ = some (.slice A2 n2 c2) := by simp [go_sem]
                have z3 : (((w2.alloc (Obj.cells #[.slice A2 n2 c2, .slice B2 k2 d2] 31)).alloc (Obj.cells #[.slice A1 n1 c1, .slice B1 k1 d1] 31)).drew).cell? ⟨w2.heap.size, 1, none⟩ = some (.slice B2 k2 d2) := by simp [go_sem]
                obtain ⟨W3, hW3⟩ : ∃ W3, ((w2.alloc (Obj.cells #[.slice A2 n2 c2, .slice B2 k2 d2] 31)).alloc (Obj.cells #[.slice A1 n1 c1, .slice B1 k1 d1] 31)).drew = W3 := ⟨_, rfl⟩
                rw [hW3] at hE3 z0 z1 z2 z3
                try rw [hW3]
                have HC3 := hid (ext4 HC2.out hE3)
                have HZ3 := hid (And.intro z0 (And.intro z1 (And.intro z2 z3)))
                have HX3 := hid (HX2.out.trans hE3)
                clear hE3 z0 z1 z2 z3 hW3 x0 x1 y0 y1
                refine (merge_any W3 A1 B1 A2 B2 n1 c1 k1 d1 n2 c2 k2 d2 bl1 bl2 hs1 hs2 (HB1.out.ext HX3.out) (HH1.out.ext HX3.out) (HB2.out.ext HX3.out) (HH2.out.ext HX3.out) (by omega) (by omega)).mono ?_
                rintro e w4 ⟨hx4, A3, c3, A4, c4, rfl, hs3, hs4⟩
                have HSM := hid (mrg_same bl1 hs1 bl2 hs2)
                have HCM := hid (mergeP_comm bl2 hs2 bl1 hs1)
                obtain ⟨CB, hCB⟩ : ∃ CB, covB (mergeP bl1 hs1 bl2 hs2) = CB := ⟨_, rfl⟩
                obtain ⟨CH, hCH⟩ : ∃ CH, covH (mergeP bl1 hs1 bl2 hs2) = CH := ⟨_, rfl⟩
                rw [hCB] at hs3 hs4 HSM HCM ⊢
                rw [hCH] at hs4 HSM HCM
                have HX4 := hid (HX3.out.trans hx4)
                have HC4 := hid (ext4 HC3.out hx4)
                have HZ4 := hid (ext4 HZ3.out hx4)
                have HS3 := hid hs3
                have HS4 := hid hs4
                obtain ⟨N, hN⟩ : ∃ N, CB.length = N := ⟨_, rfl⟩
                rw [hN] at HS3 HS4 hs4 ⊢
                have HN := hid hN
                clear hx4 hs3 hs4 hCB hCH hN
                go_wp2_with fail
                refine (toRef_any w4 A3 A4 N c3 N c4).mono ?_
                rintro e w5 ⟨rfl, hx5⟩
                have HX5 := hid (HX4.out.trans hx5)
                have HC5 := hid (ext4 HC4.out hx5)
                have HZ5 := hid (ext4 HZ4.out hx5)
                have HS35 := hid (HS3.out.ext hx5)
                have HS45 := hid (HS4.out.ext hx5)
                have hE6 : Ext w5 (w5.alloc (.cells #[.slice A3 N c3, .slice A4 N c4] 29)) := (Ext.refl w5).alloc _
                have t0 : (w5.alloc (.cells #[.slice A3 N c3, .slice A4 N c4] 29)).cell? ⟨w5.heap.size, 0, none⟩ = some (.slice A3 N c3) := by simp [go_sem]
                have t1 : (w5.alloc (.cells #[.slice A3 N c3, .slice A4 N c4] 29)).cell? ⟨w5.heap.size, 1, none⟩ = some (.slice A4 N c4) := by simp [go_sem]
                clear hx5
                go_wp2_with fail
                obtain ⟨W6, hW6⟩ : ∃ W6, w5.alloc (.cells #[.slice A3 N c3, .slice A4 N c4] 29) = W6 := ⟨_, rfl⟩
                rw [hW6] at hE6 t0 t1
                try rw [hW6]
                have HX6 := hid (HX5.out.trans hE6)
                have hc6 := ext4 HC5.out hE6
                have hz6 := ext4 HZ5.out hE6
                have HB16 := hid (HB1.out.ext HX6.out)
                have HH16 := hid (HH1.out.ext HX6.out)
                have HB26 := hid (HB2.out.ext HX6.out)
                have HH26 := hid (HH2.out.ext HX6.out)
                have HL6 := hid (HL.out.ext HX6.out)
                have HS36 := hid (HS35.out.ext hE6)
                have HS46 := hid (HS45.out.ext hE6)
                obtain ⟨x0, x1, y0, y1⟩ := hc6
                obtain ⟨z0, z1, z2, z3⟩ := hz6
                have HC10 := hid (And.intro t0 (And.intro t1 (And.intro x0 (And.intro x1 (And.intro y0 (And.intro y1 (And.intro z0 (And.intro z1 (And.intro z2 z3)))))))))
                clear hW6 hE6
                have HXFb_0 := hid ((Ext.refl W6).drew)
                refine wp_region_held_drew (S := (fun w' => w'.cell? ⟨w5.heap.size, 0, none⟩ = some (.slice A3 N c3) ∧ w'.cell? ⟨w5.heap.size, 1, none⟩ = some (.slice A4 N c4) ∧ w'.cell? ⟨w.heap.size, 0, none⟩ = some (.slice A1 n1 c1) ∧ w'.cell? ⟨w.heap.size, 1, none⟩ = some (.slice B1 k1 d1) ∧ w'.cell? ⟨w.heap.size + 1, 0, none⟩ = some (.slice A2 n2 c2) ∧ w'.cell? ⟨w.heap.size + 1, 1, none⟩ = some (.slice B2 k2 d2) ∧ w'.cell? ⟨w2.heap.size + 1, 0, none⟩ = some (.slice A1 n1 c1) ∧ w'.cell? ⟨w2.heap.size + 1, 1, none⟩ = some (.slice B1 k1 d1) ∧ w'.cell? ⟨w2.heap.size, 0, none⟩ = some (.slice A2 n2 c2) ∧ w'.cell? ⟨w2.heap.size, 1, none⟩ = some (.slice B2 k2 d2))) (by kernel_rfl) ⟨t0, t1, x0, x1, y0, y1, z0, z1, z2, z3⟩ (fun hSFb0 => ?_)
                refine wpAnyH_takeL (i := 0) (v := ?Fbv0x1) rfl (by kernel_rfl) (by kernel_rfl) (by kernel_rfl) (fun _ _ _ h => h) (Or.inl ⟨by rfl, ?Fby0x1⟩) (by assumption) ?Fbr0x1
                case Fby0x1 => first | (intro w hSw; (try dsimp only at hSw); go_simp; done) | (intro w hSw; (try dsimp only at hSw); go_simp; with_reducible rfl)
                case' Fbr0x1 => try simp only [Act.put, List.setIfInBounds_toArray, List.set_cons_zero, List.set_cons_succ]
                refine wpAnyH_takeL (i := 1) (v := ?Fbv1x2) rfl (by kernel_rfl) (by kernel_rfl) (by kernel_rfl) (fun _ _ _ h => h) (Or.inl ⟨by rfl, ?Fby1x2⟩) (by assumption) ?Fbr1x2
                case Fby1x2 => first | (intro w hSw; (try dsimp only at hSw); go_simp; done) | (intro w hSw; (try dsimp only at hSw); go_simp; with_reducible rfl)
                case' Fbr1x2 => try simp only [Act.put, List.setIfInBounds_toArray, List.set_cons_zero, List.set_cons_succ]
                refine wpAnyH_takeL (i := 2) (v := ?Fbv2x3) rfl (by kernel_rfl) (by kernel_rfl) (by kernel_rfl) (fun _ _ _ h => h) (Or.inl ⟨by rfl, ?Fby2x3⟩) (by assumption) ?Fbr2x3
                case Fby2x3 => first | (intro w hSw; (try dsimp only at hSw); go_simp; done) | (intro w hSw; (try dsimp only at hSw); go_simp; with_reducible rfl)
                case' Fbr2x3 => try simp only [Act.put, List.setIfInBounds_toArray, List.set_cons_zero, List.set_cons_succ]
                refine wpAnyH_ready (rs := [3]) (by kernel_rfl) (by simp) ?_
                refine (AllReadyH.consL rfl (fun K hK => ?Fbb3x4) AllReadyH.nil)
                case' Fbb3x4 =>
                  go_simp
                  go_at_call 31
                  refine (rmerge_any _ A1 B1 A2 B2 n1 c1 k1 d1 n2 c2 k2 d2 bl1 bl2 hs1 hs2 (HB16.out.ext HXFb_0.out) (HH16.out.ext HXFb_0.out) (HB26.out.ext HXFb_0.out) (HH26.out.ext HXFb_0.out) (by omega) (by omega)).mono ?_
                  rintro e w7 ⟨hEFb1, A7, c7, A8, c8, rfl, hs7, hs8⟩
                  rw [← HSM.out.1, HN.out] at hs7 hs8
                  rw [← HSM.out.2] at hs8
                  rw [← HSM.out.1, HN.out]
                  have HS7 := hid hs7
                  have HS8 := hid hs8
                  clear hs7 hs8
                  have HXFb_1 := hid (HXFb_0.out.trans hEFb1)
                  clear hEFb1
                  refine hK.out _ _ (ext10 HC10.out HXFb_1.out) (fun hSFb1 => ?_)
                  clear hK K
                  try simp only [Act.put, List.setIfInBounds_toArray, List.set_cons_zero, List.set_cons_succ]
                  refine wpAnyH_ready (rs := [4]) (by kernel_rfl) (by simp) ?_
                  refine (AllReadyH.consL rfl (fun K hK => ?Fbb4x5) AllReadyH.nil)
                  case' Fbb4x5 =>
                    go_simp
                    go_at_call 12
                    refine (same_any _ A3 A7 A4 A8 N c3 c7 N c4 c8 CB CH (HS36.out.ext HXFb_1.out) HS7.out (HS46.out.ext HXFb_1.out) HS8.out).mono ?_
                    rintro e w8 ⟨rfl, hEFb2⟩
                    have HXFb_2 := hid (HXFb_1.out.trans hEFb2)
                    have HS7 := hid (HS7.out.ext hEFb2)
                    have HS8 := hid (HS8.out.ext hEFb2)
                    clear hEFb2
                    refine hK.out _ _ (ext10 HC10.out HXFb_2.out) (fun hSFb2 => ?_)
                    clear hK K
                    try simp only [Act.put, List.setIfInBounds_toArray, List.set_cons_zero, List.set_cons_succ]
                    refine wpAnyH_takeL (i := 5) (v := ?Fbv5x6) rfl (by kernel_rfl) (by kernel_rfl) (by kernel_rfl) (fun _ _ _ h => h) (Or.inl ⟨by rfl, ?Fby5x6⟩) (by assumption) ?Fbr5x6
                    case Fby5x6 => first | (intro w hSw; (try dsimp only at hSw); go_simp; done) | (intro w hSw; (try dsimp only at hSw); go_simp; with_reducible rfl)
                    case' Fbr5x6 => try simp only [Act.put, List.setIfInBounds_toArray, List.set_cons_zero, List.set_cons_succ]
                    refine wpAnyH_takeL (i := 6) (v := ?Fbv6x7) rfl (by kernel_rfl) (by kernel_rfl) (by kernel_rfl) (fun _ _ _ h => h) (Or.inl ⟨by rfl, ?Fby6x7⟩) (by assumption) ?Fbr6x7
                    case Fby6x7 => first | (intro w hSw; (try dsimp only at hSw); go_simp; done) | (intro w hSw; (try dsimp only at hSw); go_simp; with_reducible rfl)
                    case' Fbr6x7 => try simp only [Act.put, List.setIfInBounds_toArray, List.set_cons_zero, List.set_cons_succ]
                    refine wpAnyH_takeL (i := 7) (v := ?Fbv7x8) rfl (by kernel_rfl) (by kernel_rfl) (by kernel_rfl) (fun _ _ _ h => h) (Or.inl ⟨by rfl, ?Fby7x8⟩) (by assumption) ?Fbr7x8
                    case Fby7x8 => first | (intro w hSw; (try dsimp only at hSw); go_simp; done) | (intro w hSw; (try dsimp only at hSw); go_simp; with_reducible rfl)
                    case' Fbr7x8 => try simp only [Act.put, List.setIfInBounds_toArray, List.set_cons_zero, List.set_cons_succ]
                    refine wpAnyH_takeL (i := 8) (v := ?Fbv8x9) rfl (by kernel_rfl) (by kernel_rfl) (by kernel_rfl) (fun _ _ _ h => h) (Or.inl ⟨by rfl, ?Fby8x9⟩) (by assumption) ?Fbr8x9
                    case Fby8x9 => first | (intro w hSw; (try dsimp only at hSw); go_simp; done) | (intro w hSw; (try dsimp only at hSw); go_simp; with_reducible rfl)
                    case' Fbr8x9 => try simp only [Act.put, List.setIfInBounds_toArray, List.set_cons_zero, List.set_cons_succ]
                    refine wpAnyH_ready (rs := [9]) (by kernel_rfl) (by simp) ?_
                    refine (AllReadyH.consL rfl (fun K hK => ?Fbb9x10) AllReadyH.nil)
                    case' Fbb9x10 =>
                      go_simp
                      go_at_call 29
                      refine (merge_any _ A2 B2 A1 B1 n2 c2 k2 d2 n1 c1 k1 d1 bl2 bl1 hs2 hs1 (HB26.out.ext HXFb_2.out) (HH26.out.ext HXFb_2.out) (HB16.out.ext HXFb_2.out) (HH16.out.ext HXFb_2.out) (by omega) (by omega)).mono ?_
                      rintro e w9 ⟨hEFb3, A9, c9, A10, c10, rfl, hs9, hs10⟩
                      rw [HCM.out.1, HN.out] at hs9 hs10
                      rw [HCM.out.2] at hs10
                      rw [HCM.out.1, HN.out]
                      have HS9 := hid hs9
                      have HS10 := hid hs10
                      clear hs9 hs10
                      have HXFb_3 := hid (HXFb_2.out.trans hEFb3)
                      have HS7 := hid (HS7.out.ext hEFb3)
                      have HS8 := hid (HS8.out.ext hEFb3)
                      clear hEFb3
                      refine hK.out _ _ (ext10 HC10.out HXFb_3.out) (fun hSFb3 => ?_)
                      clear hK K
                      try simp only [Act.put, List.setIfInBounds_toArray, List.set_cons_zero, List.set_cons_succ]
                      refine wpAnyH_ready (rs := [10]) (by kernel_rfl) (by simp) ?_
                      refine (AllReadyH.consL rfl (fun K hK => ?Fbb10x11) AllReadyH.nil)
                      case' Fbb10x11 =>
                        go_simp
                        go_at_call 13
                        refine (toRef_any _ A9 A10 N c9 N c10).mono ?_
                        rintro e w10 ⟨rfl, hEFb4⟩
                        have HXFb_4 := hid (HXFb_3.out.trans hEFb4)
                        have HS7 := hid (HS7.out.ext hEFb4)
                        have HS8 := hid (HS8.out.ext hEFb4)
                        have HS9 := hid (HS9.out.ext hEFb4)
                        have HS10 := hid (HS10.out.ext hEFb4)
                        clear hEFb4
                        refine hK.out _ _ (ext10 HC10.out HXFb_4.out) (fun hSFb4 => ?_)
                        clear hK K
                        try simp only [Act.put, List.setIfInBounds_toArray, List.set_cons_zero, List.set_cons_succ]
                        refine wpAnyH_ready (rs := [11]) (by kernel_rfl) (by simp) ?_
                        refine (AllReadyH.consL rfl (fun K hK => ?Fbb11x12) AllReadyH.nil)
                        case' Fbb11x12 =>
                          go_simp
                          go_at_call 12
                          refine (same_any _ A3 A9 A4 A10 N c3 c9 N c4 c10 CB CH (HS36.out.ext HXFb_4.out) HS9.out (HS46.out.ext HXFb_4.out) HS10.out).mono ?_
                          rintro e w11 ⟨rfl, hEFb5⟩
                          have HXFb_5 := hid (HXFb_4.out.trans hEFb5)
                          have HS7 := hid (HS7.out.ext hEFb5)
                          have HS8 := hid (HS8.out.ext hEFb5)
                          have HS9 := hid (HS9.out.ext hEFb5)
                          have HS10 := hid (HS10.out.ext hEFb5)
                          clear hEFb5
                          refine hK.out _ _ (ext10 HC10.out HXFb_5.out) (fun hSFb5 => ?_)
                          clear hK K
                          try simp only [Act.put, List.setIfInBounds_toArray, List.set_cons_zero, List.set_cons_succ]
                          refine wpAnyH_takeL (i := 12) (v := ?Fbv12x13) rfl (by kernel_rfl) (by kernel_rfl) (by kernel_rfl) (fun _ _ _ h => h) (Or.inl ⟨by rfl, ?Fby12x13⟩) (by assumption) ?Fbr12x13
                          case Fby12x13 => first | (intro w hSw; (try dsimp only at hSw); go_simp; done) | (intro w hSw; (try dsimp only at hSw); go_simp; with_reducible rfl)
                          case' Fbr12x13 => try simp only [Act.put, List.setIfInBounds_toArray, List.set_cons_zero, List.set_cons_succ]
                          refine wpAnyH_takeL (i := 13) (v := ?Fbv13x14) rfl (by kernel_rfl) (by kernel_rfl) (by kernel_rfl) (fun _ _ _ h => h) (Or.inl ⟨by rfl, ?Fby13x14⟩) (by assumption) ?Fbr13x14
                          case Fby13x14 => first | (intro w hSw; (try dsimp only at hSw); go_simp; done) | (intro w hSw; (try dsimp only at hSw); go_simp; with_reducible rfl)
                          case' Fbr13x14 => try simp only [Act.put, List.setIfInBounds_toArray, List.set_cons_zero, List.set_cons_succ]
                          refine wpAnyH_takeL (i := 14) (v := ?Fbv14x15) rfl (by kernel_rfl) (by kernel_rfl) (by kernel_rfl) (fun _ _ _ h => h) (Or.inl ⟨by rfl, ?Fby14x15⟩) (by assumption) ?Fbr14x15
                          case Fby14x15 => first | (intro w hSw; (try dsimp only at hSw); go_simp; done) | (intro w hSw; (try dsimp only at hSw); go_simp; with_reducible rfl)
                          case' Fbr14x15 => try simp only [Act.put, List.setIfInBounds_toArray, List.set_cons_zero, List.set_cons_succ]
                          refine wpAnyH_takeL (i := 16) (v := ?Fbv16x16) rfl (by kernel_rfl) (by kernel_rfl) (by kernel_rfl) (fun _ _ _ h => h) (Or.inl ⟨by rfl, ?Fby16x16⟩) (by assumption) ?Fbr16x16
                          case Fby16x16 => first | (intro w hSw; (try dsimp only at hSw); go_simp; done) | (intro w hSw; (try dsimp only at hSw); go_simp; with_reducible rfl)
                          case' Fbr16x16 => try simp only [Act.put, List.setIfInBounds_toArray, List.set_cons_zero, List.set_cons_succ]
                          refine wpAnyH_takeL (i := 18) (v := ?Fbv18x17) rfl (by kernel_rfl) (by kernel_rfl) (by kernel_rfl) (fun _ _ _ h => h) (Or.inl ⟨by rfl, ?Fby18x17⟩) (by assumption) ?Fbr18x17
                          case Fby18x17 => first | (intro w hSw; (try dsimp only at hSw); go_simp; done) | (intro w hSw; (try dsimp only at hSw); go_simp; with_reducible rfl)
                          case' Fbr18x17 => try simp only [Act.put, List.setIfInBounds_toArray, List.set_cons_zero, List.set_cons_succ]
                          refine wpAnyH_takeL (i := 19) (v := ?Fbv19x18) rfl (by kernel_rfl) (by kernel_rfl) (by kernel_rfl) (fun _ _ _ h => h) (Or.inl ⟨by rfl, ?Fby19x18⟩) (by assumption) ?Fbr19x18
                          case Fby19x18 => first | (intro w hSw; (try dsimp only at hSw); go_simp; done) | (intro w hSw; (try dsimp only at hSw); go_simp; with_reducible rfl)
                          case' Fbr19x18 => try simp only [Act.put, List.setIfInBounds_toArray, List.set_cons_zero, List.set_cons_succ]
                          refine wpAnyH_ready (rs := [15]) (by kernel_rfl) (by simp) ?_
                          refine (AllReadyH.consL rfl (fun K hK => ?Fbb15x19) AllReadyH.nil)
                          case' Fbb15x19 =>
                            go_simp
                            go_at_call 15
                            refine (basics_any _ A n c l (HL6.out.ext HXFb_5.out) (by omega)).mono ?_
                            rintro e w12 ⟨hEFb6, A12, c12, rfl, hs12⟩
                            have HS12 := hid hs12
                            clear hs12
                            have HXFb_6 := hid (HXFb_5.out.trans hEFb6)
                            have HS7 := hid (HS7.out.ext hEFb6)
                            have HS8 := hid (HS8.out.ext hEFb6)
                            have HS9 := hid (HS9.out.ext hEFb6)
                            have HS10 := hid (HS10.out.ext hEFb6)
                            clear hEFb6
                            refine hK.out _ _ (ext10 HC10.out HXFb_6.out) (fun hSFb6 => ?_)
                            clear hK K
                            try simp only [Act.put, List.setIfInBounds_toArray, List.set_cons_zero, List.set_cons_succ]
                            refine wpAnyH_ready (rs := [17]) (by kernel_rfl) (by simp) ?_
                            refine (AllReadyH.consL rfl (fun K hK => ?Fbb17x20) AllReadyH.nil)
                            case' Fbb17x20 =>
                              go_simp
                              go_at_call 27
                              refine (missed_any _ A12 A1 B1 l.length c12 n1 c1 k1 d1 l bl1 HS12.out (HB16.out.ext HXFb_6.out) (by have := HLN.out; omega) (by omega)).mono ?_
                              rintro e w13 ⟨hEFb7, A13, c13, rfl, hs13⟩
                              have HS13 := hid hs13
                              clear hs13
                              have HXFb_7 := hid (HXFb_6.out.trans hEFb7)
                              have HS7 := hid (HS7.out.ext hEFb7)
                              have HS8 := hid (HS8.out.ext hEFb7)
                              have HS9 := hid (HS9.out.ext hEFb7)
                              have HS10 := hid (HS10.out.ext hEFb7)
                              have HS12 := hid (HS12.out.ext hEFb7)
                              clear hEFb7
                              refine hK.out _ _ (ext10 HC10.out HXFb_7.out) (fun hSFb7 => ?_)
                              clear hK K
                              try simp only [Act.put, List.setIfInBounds_toArray, List.set_cons_zero, List.set_cons_succ]
                              refine wpAnyH_ready (rs := [20]) (by kernel_rfl) (by simp) ?_
                              refine (AllReadyH.consL rfl (fun K hK => ?Fbb20x21) AllReadyH.nil)
                              case' Fbb20x21 =>
                                go_simp
                                go_at_call 32
                                refine (rmissed_any _ A A1 B1 n c n1 c1 k1 d1 l bl1 (HL6.out.ext HXFb_7.out) (HB16.out.ext HXFb_7.out) (by omega)).mono ?_
                                rintro e w14 ⟨hEFb8, A14, c14, rfl, hs14⟩
                                have HS14 := hid hs14
                                clear hs14
                                have HXFb_8 := hid (HXFb_7.out.trans hEFb8)
                                have HS7 := hid (HS7.out.ext hEFb8)
                                have HS8 := hid (HS8.out.ext hEFb8)
                                have HS9 := hid (HS9.out.ext hEFb8)
                                have HS10 := hid (HS10.out.ext hEFb8)
                                have HS12 := hid (HS12.out.ext hEFb8)
                                have HS13 := hid (HS13.out.ext hEFb8)
                                clear hEFb8
                                refine hK.out _ _ (ext10 HC10.out HXFb_8.out) (fun hSFb8 => ?_)
                                clear hK K
                                try simp only [Act.put, List.setIfInBounds_toArray, List.set_cons_zero, List.set_cons_succ]
                                refine wpAnyH_ready (rs := [21]) (by kernel_rfl) (by simp) ?_
                                refine (AllReadyH.consL rfl (fun K hK => ?Fbb21x22) AllReadyH.nil)
                                case' Fbb21x22 =>
                                  go_simp
                                  go_at_call 24
                                  refine (words_any _ _ (Ext.refl _) A13 A14 _ _ c13 c14 (missedOf l bl1) (missedOf l bl1) HS13.out HS14.out).mono ?_
                                  rintro e w15 ⟨rfl, hEFb9⟩
                                  rw [show decide (missedOf l bl1 = missedOf l bl1) = true by simp]
                                  have HXFb_9 := hid (HXFb_8.out.trans hEFb9)
                                  have HS7 := hid (HS7.out.ext hEFb9)
                                  have HS8 := hid (HS8.out.ext hEFb9)
                                  have HS9 := hid (HS9.out.ext hEFb9)
                                  have HS10 := hid (HS10.out.ext hEFb9)
                                  have HS12 := hid (HS12.out.ext hEFb9)
                                  have HS13 := hid (HS13.out.ext hEFb9)
                                  have HS14 := hid (HS14.out.ext hEFb9)
                                  clear hEFb9
                                  refine hK.out _ _ (ext10 HC10.out HXFb_9.out) (fun hSFb9 => ?_)
                                  clear hK K
                                  try simp only [Act.put, List.setIfInBounds_toArray, List.set_cons_zero, List.set_cons_succ]
                                  refine wpAnyH_takeL (i := 22) (v := ?Fbv22x23) rfl (by kernel_rfl) (by kernel_rfl) (by kernel_rfl) (fun _ _ _ h => h) (Or.inl ⟨by rfl, ?Fby22x23⟩) (by assumption) ?Fbr22x23
                                  case Fby22x23 => first | (intro w hSw; (try dsimp only at hSw); go_simp; done) | (intro w hSw; (try dsimp only at hSw); go_simp; with_reducible rfl)
                                  case' Fbr22x23 => try simp only [Act.put, List.setIfInBounds_toArray, List.set_cons_zero, List.set_cons_succ]
                                  refine wpAnyH_takeL (i := 23) (v := ?Fbv23x24) rfl (by kernel_rfl) (by kernel_rfl) (by kernel_rfl) (fun _ _ _ h => h) (Or.inl ⟨by rfl, ?Fby23x24⟩) (by assumption) ?Fbr23x24
                                  case Fby23x24 => first | (intro w hSw; (try dsimp only at hSw); go_simp; done) | (intro w hSw; (try dsimp only at hSw); go_simp; with_reducible rfl)
                                  case' Fbr23x24 => try simp only [Act.put, List.setIfInBounds_toArray, List.set_cons_zero, List.set_cons_succ]
                                  refine wpAnyH_ready (rs := [24]) (by kernel_rfl) (by simp) ?_
                                  refine (AllReadyH.consL rfl (fun K hK => ?Fbb24x25) AllReadyH.nil)
                                  case' Fbb24x25 =>
                                    go_simp
                                    go_at_call 11
                                    refine (example_any _).mono ?_
                                    rintro e w16 ⟨rfl, hEFb10⟩
                                    have HXFb_10 := hid (HXFb_9.out.trans hEFb10)
                                    have HS7 := hid (HS7.out.ext hEFb10)
                                    have HS8 := hid (HS8.out.ext hEFb10)
                                    have HS9 := hid (HS9.out.ext hEFb10)
                                    have HS10 := hid (HS10.out.ext hEFb10)
                                    have HS12 := hid (HS12.out.ext hEFb10)
                                    have HS13 := hid (HS13.out.ext hEFb10)
                                    have HS14 := hid (HS14.out.ext hEFb10)
                                    clear hEFb10
                                    refine hK.out _ _ (ext10 HC10.out HXFb_10.out) (fun hSFb10 => ?_)
                                    clear hK K
                                    try simp only [Act.put, List.setIfInBounds_toArray, List.set_cons_zero, List.set_cons_succ]
                                    refine wpAnyH_takeL (i := 25) (v := ?Fbv25x26) rfl (by kernel_rfl) (by kernel_rfl) (by kernel_rfl) (fun _ _ _ h => h) (Or.inl ⟨by rfl, ?Fby25x26⟩) (by assumption) ?Fbr25x26
                                    case Fby25x26 => first | (intro w hSw; (try dsimp only at hSw); go_simp; done) | (intro w hSw; (try dsimp only at hSw); go_simp; with_reducible rfl)
                                    case' Fbr25x26 => try simp only [Act.put, List.setIfInBounds_toArray, List.set_cons_zero, List.set_cons_succ]
                                    refine wpAnyH_takeL (i := 26) (v := ?Fbv26x27) rfl (by kernel_rfl) (by kernel_rfl) (by kernel_rfl) (fun _ _ _ h => h) (Or.inl ⟨by rfl, ?Fby26x27⟩) (by assumption) ?Fbr26x27
                                    case Fby26x27 => first | (intro w hSw; (try dsimp only at hSw); go_simp; done) | (intro w hSw; (try dsimp only at hSw); go_simp; with_reducible rfl)
                                    case' Fbr26x27 => try simp only [Act.put, List.setIfInBounds_toArray, List.set_cons_zero, List.set_cons_succ]
                                    have HXend := HXFb_10
                                    refine wpAnyH_done (by kernel_rfl) ?_ _
                go_wp2
                go_ret
                exact ⟨by simp, HE0.out.trans (HX6.out.trans HXend.out)⟩
end Go.Proofs.Ytcddmggefmfkkaa
