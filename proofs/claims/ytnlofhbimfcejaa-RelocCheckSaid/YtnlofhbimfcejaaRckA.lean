/- The law RelocCheck. -/
import Derived.Test.YtnlofhbimfcejaaRelK
import Derived.Test.YtnlofhbimfcejaaR7B
import Derived.Test.YtnlofhbimfcejaaR7C
import Derived.Test.YtnlofhbimfcejaaLawB
namespace Go.Proofs.Ytnlofhbimfcejaa
open Go.RowKit Go.Deco
set_option linter.unusedSimpArgs false
set_option linter.unusedVariables false

set_option maxRecDepth 100000 in
set_option maxHeartbeats 4000000 in
theorem rck_any (w : World) (o : Ob) (As Ay Ar : Option Addr) (ns cs ny cy nr cr : Nat) (hs : Sl secR w All (.slice As ns cs) o.secs) (hy : Sl symR w All (.slice Ay ny cy) o.syms) (hr : Sl relR w All (.slice Ar nr cr) o.rels) :
    Calls Try.prog 3 #[.agg #[.int .u32 o.entry, .slice As ns cs, .slice Ay ny cy, .slice Ar nr cr]] w (OneTrue w) := by
  obtain ⟨W0, hW0⟩ : ∃ W0, w.alloc (.cells #[.int .u32 o.entry, .slice As ns cs, .slice Ay ny cy, .slice Ar nr cr] 27) = W0 := ⟨_, rfl⟩
  have hE0 : Ext w W0 := by rw [← hW0]; exact (Ext.refl w).alloc _
  have hB : Box4 W0 w.heap.size (.int .u32 o.entry) (.slice As ns cs) (.slice Ay ny cy) (.slice Ar nr cr) := by rw [← hW0]; exact Box4.new w _ _ _ _ _
  have HB := hid hB
  have HE0 := hid hE0
  have hyc := hy.cap
  have hrc := hr.cap
  have HSM := hid (fun W (h : Ext w W) => small_any W o As Ay Ar ns cs ny cy nr cr (hs.ext h) hyc hrc)
  have HC1 := hid (fun W (h : Ext w W) => rlcheck_any W o As Ay Ar ns cs ny cy nr cr (hs.ext h) (hy.ext h) (hr.ext h))
  have HC2 := hid (fun W (h : Ext w W) => check7_any W o As Ay Ar ns cs ny cy nr cr (hs.ext h) (hy.ext h) (hr.ext h))
  have HC3 := hid (fun W (h : Ext w W) (hn : nr ≤ 1000) => rlsites_any W o As Ay Ar ns cs ny cy nr cr (hs.ext h) (hr.ext h) hn)
  have HC4 := hid (fun W (h : Ext w W) (hn : nr ≤ 1000) => sites7_any W o As Ay Ar ns cs ny cy nr cr (hs.ext h) (hr.ext h) hn)
  obtain ⟨q, hq⟩ : ∃ q, obCheck o = q := ⟨_, rfl⟩
  obtain ⟨L, hL⟩ : ∃ L, asc (placesOf o) = L := ⟨_, rfl⟩
  rw [hq] at HC1 HC2
  rw [hL] at HC3 HC4
  obtain ⟨en, hen⟩ : ∃ en, o.entry = en := ⟨_, rfl⟩
  rw [hen] at HB HSM HC1 HC2 HC3 HC4 hW0 ⊢
  obtain ⟨b0, b1, b2, b3, bf⟩ := HB.out
  clear hE0 hB hs hy hr hyc hrc hq hL hen bf
  go_enter Try.func3, Try.ntmps3
  go_wp2_with fail
  clear hW0 b0 b1 b2 b3
  refine (HSM.out _ HE0.out).mono ?_
  rintro e w1 ⟨⟨b, rfl, hb⟩, hx1⟩
  have HX1 := hid hx1
  clear hx1
  cases b
  case' false =>
    clear hb
    go_wp2_with fail
    refine (example7_any _).mono ?_
    rintro e w2 ⟨rfl, hx2⟩
    have HX2 := hid (HE0.out.trans (HX1.out.trans hx2))
    clear hx2
    go_wp2
    go_ret
    exact ⟨rfl, HX2.out⟩
  have hn3 : nr ≤ 1000 := by have := hb rfl; omega
  have HN3 := hid hn3
  obtain ⟨b0, b1, b2, b3, bf⟩ := HB.out.ext HX1.out
  have HC4b := hid (show w1.cell? ⟨w.heap.size, 0, none⟩ = some (.int .u32 en) ∧ w1.cell? ⟨w.heap.size, 1, none⟩ = some (.slice As ns cs) ∧ w1.cell? ⟨w.heap.size, 2, none⟩ = some (.slice Ay ny cy) ∧ w1.cell? ⟨w.heap.size, 3, none⟩ = some (.slice Ar nr cr) from ⟨b0, b1, b2, b3⟩)
  have HEX := hid (HE0.out.trans HX1.out)
  clear hb hn3 bf
  go_wp2_with fail
  have HXg26q_0 := hid ((Ext.refl w1).drew)
  refine wp_region_held_drew (S := (fun w' => w'.cell? ⟨w.heap.size, 0, none⟩ = some (.int .u32 en) ∧ w'.cell? ⟨w.heap.size, 1, none⟩ = some (.slice As ns cs) ∧ w'.cell? ⟨w.heap.size, 2, none⟩ = some (.slice Ay ny cy) ∧ w'.cell? ⟨w.heap.size, 3, none⟩ = some (.slice Ar nr cr))) (by kernel_rfl) ⟨b0, b1, b2, b3⟩ (fun hSg26q0 => ?_)
  refine wpAnyH_takeL (i := 0) (v := ?g26qv0x1) rfl (by kernel_rfl) (by kernel_rfl) (by kernel_rfl) (fun _ _ _ h => h) (Or.inl ⟨by rfl, ?g26qy0x1⟩) (by assumption) ?g26qr0x1
  case g26qy0x1 => first | (intro w hSw; (try dsimp only at hSw); go_simp; done) | (intro w hSw; (try dsimp only at hSw); go_simp; with_reducible rfl)
  case' g26qr0x1 => try simp only [Act.put, List.setIfInBounds_toArray, List.set_cons_zero, List.set_cons_succ]
  refine wpAnyH_takeL (i := 2) (v := ?g26qv2x2) rfl (by kernel_rfl) (by kernel_rfl) (by kernel_rfl) (fun _ _ _ h => h) (Or.inl ⟨by rfl, ?g26qy2x2⟩) (by assumption) ?g26qr2x2
  case g26qy2x2 => first | (intro w hSw; (try dsimp only at hSw); go_simp; done) | (intro w hSw; (try dsimp only at hSw); go_simp; with_reducible rfl)
  case' g26qr2x2 => try simp only [Act.put, List.setIfInBounds_toArray, List.set_cons_zero, List.set_cons_succ]
  refine wpAnyH_ready (rs := [1]) (by kernel_rfl) (by simp) ?_
  refine (AllReadyH.consL rfl (fun K hK => ?g26qb1x3) AllReadyH.nil)
  case' g26qb1x3 =>
    go_simp
    go_at_call 12
    refine (HC1.out _ (HEX.out.trans HXg26q_0.out)).mono ?_
    rintro e w5 ⟨rfl, hEg26q1⟩
    have HXg26q_1 := hid (HXg26q_0.out.trans hEg26q1)
    clear hEg26q1
    refine hK.out _ _ (ext4c HC4b.out HXg26q_1.out) (fun hSg26q1 => ?_)
    clear hK K
    try simp only [Act.put, List.setIfInBounds_toArray, List.set_cons_zero, List.set_cons_succ]
    refine wpAnyH_ready (rs := [3]) (by kernel_rfl) (by simp) ?_
    refine (AllReadyH.consL rfl (fun K hK => ?g26qb3x4) AllReadyH.nil)
    case' g26qb3x4 =>
      go_simp
      go_at_call 13
      refine (HC2.out _ (HEX.out.trans HXg26q_1.out)).mono ?_
      rintro e w5 ⟨rfl, hEg26q2⟩
      have HXg26q_2 := hid (HXg26q_1.out.trans hEg26q2)
      clear hEg26q2
      refine hK.out _ _ (ext4c HC4b.out HXg26q_2.out) (fun hSg26q2 => ?_)
      clear hK K
      try simp only [Act.put, List.setIfInBounds_toArray, List.set_cons_zero, List.set_cons_succ]
      refine wpAnyH_takeL (i := 4) (v := ?g26qv4x5) rfl (by kernel_rfl) (by kernel_rfl) (by kernel_rfl) (fun _ _ _ h => h) (Or.inl ⟨by rfl, ?g26qy4x5⟩) (by assumption) ?g26qr4x5
      case g26qy4x5 => first | (intro w hSw; (try dsimp only at hSw); go_simp; done) | (intro w hSw; (try dsimp only at hSw); go_simp; with_reducible rfl)
      case' g26qr4x5 => try simp only [Act.put, List.setIfInBounds_toArray, List.set_cons_zero, List.set_cons_succ]
      refine wpAnyH_takeL (i := 5) (v := ?g26qv5x6) rfl (by kernel_rfl) (by kernel_rfl) (by kernel_rfl) (fun _ _ _ h => h) (Or.inl ⟨by rfl, ?g26qy5x6⟩) (by assumption) ?g26qr5x6
      case g26qy5x6 => first | (intro w hSw; (try dsimp only at hSw); go_simp; done) | (intro w hSw; (try dsimp only at hSw); go_simp; with_reducible rfl)
      case' g26qr5x6 => try simp only [Act.put, List.setIfInBounds_toArray, List.set_cons_zero, List.set_cons_succ]
      refine wpAnyH_takeL (i := 6) (v := ?g26qv6x7) rfl (by kernel_rfl) (by kernel_rfl) (by kernel_rfl) (fun _ _ _ h => h) (Or.inl ⟨by rfl, ?g26qy6x7⟩) (by assumption) ?g26qr6x7
      case g26qy6x7 => first | (intro w hSw; (try dsimp only at hSw); go_simp; done) | (intro w hSw; (try dsimp only at hSw); go_simp; with_reducible rfl)
      case' g26qr6x7 => try simp only [Act.put, List.setIfInBounds_toArray, List.set_cons_zero, List.set_cons_succ]
      refine wpAnyH_takeL (i := 8) (v := ?g26qv8x8) rfl (by kernel_rfl) (by kernel_rfl) (by kernel_rfl) (fun _ _ _ h => h) (Or.inl ⟨by rfl, ?g26qy8x8⟩) (by assumption) ?g26qr8x8
      case g26qy8x8 => first | (intro w hSw; (try dsimp only at hSw); go_simp; done) | (intro w hSw; (try dsimp only at hSw); go_simp; with_reducible rfl)
      case' g26qr8x8 => try simp only [Act.put, List.setIfInBounds_toArray, List.set_cons_zero, List.set_cons_succ]
      refine wpAnyH_ready (rs := [7]) (by kernel_rfl) (by simp) ?_
      refine (AllReadyH.consL rfl (fun K hK => ?g26qb7x9) AllReadyH.nil)
      case' g26qb7x9 =>
        go_simp
        go_at_call 15
        refine (HC3.out _ (HEX.out.trans HXg26q_2.out) HN3.out).mono ?_
        rintro e w5 ⟨hEg26q3, A4, c4, rfl, ha⟩
        have HA := hid ha
        clear ha
        have HXg26q_3 := hid (HXg26q_2.out.trans hEg26q3)
        clear hEg26q3
        refine hK.out _ _ (ext4c HC4b.out HXg26q_3.out) (fun hSg26q3 => ?_)
        clear hK K
        try simp only [Act.put, List.setIfInBounds_toArray, List.set_cons_zero, List.set_cons_succ]
        refine wpAnyH_ready (rs := [9]) (by kernel_rfl) (by simp) ?_
        refine (AllReadyH.consL rfl (fun K hK => ?g26qb9x10) AllReadyH.nil)
        case' g26qb9x10 =>
          go_simp
          go_at_call 16
          refine (HC4.out _ (HEX.out.trans HXg26q_3.out) HN3.out).mono ?_
          rintro e w5 ⟨hEg26q4, A6, c6, rfl, ha⟩
          have HA2 := hid ha
          clear ha
          have HXg26q_4 := hid (HXg26q_3.out.trans hEg26q4)
          have HA := hid (HA.out.ext hEg26q4)
          clear hEg26q4
          refine hK.out _ _ (ext4c HC4b.out HXg26q_4.out) (fun hSg26q4 => ?_)
          clear hK K
          try simp only [Act.put, List.setIfInBounds_toArray, List.set_cons_zero, List.set_cons_succ]
          refine wpAnyH_ready (rs := [10]) (by kernel_rfl) (by simp) ?_
          refine (AllReadyH.consL rfl (fun K hK => ?g26qb10x11) AllReadyH.nil)
          case' g26qb10x11 =>
            go_simp
            go_at_call 14
            refine (words_any _ _ (Ext.refl _) A4 A6 L.length L.length c4 c6 L L HA.out HA2.out).mono ?_
            rintro e w7 ⟨rfl, hEg26q5⟩
            rw [show decide (L = L) = true from decide_eq_true rfl]
            have HXg26q_5 := hid (HXg26q_4.out.trans hEg26q5)
            have HA := hid (HA.out.ext hEg26q5)
            have HA2 := hid (HA2.out.ext hEg26q5)
            clear hEg26q5
            refine hK.out _ _ (ext4c HC4b.out HXg26q_5.out) (fun hSg26q5 => ?_)
            clear hK K
            try simp only [Act.put, List.setIfInBounds_toArray, List.set_cons_zero, List.set_cons_succ]
            refine wpAnyH_takeL (i := 11) (v := ?g26qv11x12) rfl (by kernel_rfl) (by kernel_rfl) (by kernel_rfl) (fun _ _ _ h => h) (Or.inl ⟨by rfl, ?g26qy11x12⟩) (by assumption) ?g26qr11x12
            case g26qy11x12 => first | (intro w hSw; (try dsimp only at hSw); go_simp; done) | (intro w hSw; (try dsimp only at hSw); go_simp; with_reducible rfl)
            case' g26qr11x12 => try simp only [Act.put, List.setIfInBounds_toArray, List.set_cons_zero, List.set_cons_succ]
            refine wpAnyH_takeL (i := 12) (v := ?g26qv12x13) rfl (by kernel_rfl) (by kernel_rfl) (by kernel_rfl) (fun _ _ _ h => h) (Or.inl ⟨by rfl, ?g26qy12x13⟩) (by assumption) ?g26qr12x13
            case g26qy12x13 => first | (intro w hSw; (try dsimp only at hSw); go_simp; done) | (intro w hSw; (try dsimp only at hSw); go_simp; with_reducible rfl)
            case' g26qr12x13 => try simp only [Act.put, List.setIfInBounds_toArray, List.set_cons_zero, List.set_cons_succ]
            refine wpAnyH_ready (rs := [13]) (by kernel_rfl) (by simp) ?_
            refine (AllReadyH.consL rfl (fun K hK => ?g26qb13x14) AllReadyH.nil)
            case' g26qb13x14 =>
              go_simp
              go_at_call 11
              refine (example7_any _).mono ?_
              rintro e w7 ⟨rfl, hEg26q6⟩
              have HXg26q_6 := hid (HXg26q_5.out.trans hEg26q6)
              have HA := hid (HA.out.ext hEg26q6)
              have HA2 := hid (HA2.out.ext hEg26q6)
              clear hEg26q6
              refine hK.out _ _ (ext4c HC4b.out HXg26q_6.out) (fun hSg26q6 => ?_)
              clear hK K
              try simp only [Act.put, List.setIfInBounds_toArray, List.set_cons_zero, List.set_cons_succ]
              refine wpAnyH_takeL (i := 14) (v := ?g26qv14x15) rfl (by kernel_rfl) (by kernel_rfl) (by kernel_rfl) (fun _ _ _ h => h) (Or.inl ⟨by rfl, ?g26qy14x15⟩) (by assumption) ?g26qr14x15
              case g26qy14x15 => first | (intro w hSw; (try dsimp only at hSw); go_simp; done) | (intro w hSw; (try dsimp only at hSw); go_simp; with_reducible rfl)
              case' g26qr14x15 => try simp only [Act.put, List.setIfInBounds_toArray, List.set_cons_zero, List.set_cons_succ]
              refine wpAnyH_takeL (i := 15) (v := ?g26qv15x16) rfl (by kernel_rfl) (by kernel_rfl) (by kernel_rfl) (fun _ _ _ h => h) (Or.inl ⟨by rfl, ?g26qy15x16⟩) (by assumption) ?g26qr15x16
              case g26qy15x16 => first | (intro w hSw; (try dsimp only at hSw); go_simp; done) | (intro w hSw; (try dsimp only at hSw); go_simp; with_reducible rfl)
              case' g26qr15x16 => try simp only [Act.put, List.setIfInBounds_toArray, List.set_cons_zero, List.set_cons_succ]
              have HXend := HXg26q_6
              refine wpAnyH_done (by kernel_rfl) ?_ _
  go_wp2
  go_ret
  exact ⟨rfl, HEX.out.trans HXend.out⟩
end Go.Proofs.Ytnlofhbimfcejaa
