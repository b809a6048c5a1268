/- decompilerref07: Sites. -/
import Derived.Test.YtnlofhbimfcejaaRelI
namespace Go.Proofs.Ytnlofhbimfcejaa
open Go.RowKit Go.Deco
set_option linter.unusedSimpArgs false
set_option linter.unusedVariables false

set_option maxRecDepth 100000 in
set_option maxHeartbeats 4000000 in
theorem sites7_any (w : World) (o : Ob) (As Ay Ar : Option Addr) (ns cs ny cy nr cr : Nat) (hs : Sl secR w All (.slice As ns cs) o.secs) (hr : Sl relR w All (.slice Ar nr cr) o.rels) (hn : nr ≤ 1000) :
    Calls Try.prog 16 #[.agg #[.int .u32 o.entry, .slice As ns cs, .slice Ay ny cy, .slice Ar nr cr]] w (ListOf w (asc (placesOf o))) := by
  obtain ⟨L, hL⟩ : ∃ L, asc (placesOf o) = L := ⟨_, rfl⟩
  rw [hL]
  rw [placesOf_eq] at hL
  have HL := hid hL
  have HLS := hid hs.len
  have HLR := hid hr.len
  have hsc := hs.cap
  have hrc := hr.cap
  obtain ⟨en, hen⟩ : ∃ en, o.entry = en := ⟨_, rfl⟩
  rw [hen]
  obtain ⟨W0, hW0⟩ : ∃ W0, w.alloc (.cells #[.int .u32 en, .slice As ns cs, .slice Ay ny cy, .slice Ar nr cr] 27) = W0 := ⟨_, rfl⟩
  have hE0 : Ext w W0 := by rw [← hW0]; exact (Ext.refl w).alloc _
  have o1 : W0.cell? ⟨w.heap.size, 1, none⟩ = some (.slice As ns cs) := by rw [← hW0]; simp [go_sem]
  have o3 : W0.cell? ⟨w.heap.size, 3, none⟩ = some (.slice Ar nr cr) := by rw [← hW0]; simp [go_sem]
  have HE0 := hid hE0
  have HO1 := hid (And.intro o1 o3)
  have HS := hid (hs.ext hE0)
  have HR := hid (hr.ext hE0)
  clear hL hs hr hen hE0 o1 o3
  go_enter Try.func16, Try.ntmps16
  go_wp2
  clear hW0
  go_loopw [3, 4] (fun v i wr => ∃ (j : Nat) (A' : Option Addr) (c' : Nat) (M : List Nat), j ≤ nr ∧ i = .int .i64 j ∧ v = .slice A' M.length c' ∧ M.length ≤ j ∧ Hid (Sl u32R wr All (.slice A' M.length c') M) ∧ Hid (Ext W0 wr) ∧ Hid (M = asc ((o.rels.take j).filterMap (relPlace o.secs)))) (fun _ i _ => nr - (intOf i).toNat)
  case atStart => exact ⟨0, none, 0, [], by omega, rfl, rfl, by simp, hid Sl.nil, hid (Ext.refl _), hid rfl⟩
  case round =>
    obtain ⟨j, A', c', M, hj, rfl, rfl, hMl, HO, HX, HM⟩ := hrel
    have o3 := HX.out.cell HO1.out.2
    by_cases h1 : j < nr
    · obtain ⟨r, hk⟩ : ∃ r, o.rels[j]? = some r := ⟨_, List.getElem?_eq_getElem (by have := HLR.out; omega)⟩
      obtain ⟨b, off, rfl, -, c0, c1, c2, c3, c4⟩ := Sl.rel_at (HR.out.ext HX.out) hk
      have o1 := HX.out.cell HO1.out.1
      have hlt := World.block_lt_of_cell? _ _ o1
      have hsn := fmap_snoc (f := relPlace o.secs) hk
      have i3 : (0 : Int) ≤ (j : Int) := by omega
      have i4 : (j : Int) < (nr : Int) := by omega
      obtain ⟨sec, of_, kd, sym, add⟩ := r
      dsimp only at c0 c1 c2 c3 c4
      have HX3 := hid ((Ext.refl wr).alloc (.cells #[.int .i64 sec, .int .i64 of_, .int .i64 kd, .string sym, .int .i32 add] 36))
      have HX4 := hid (HX.out.trans HX3.out)
      have HO3 := hid (HO.out.ext HX3.out)
      clear hk
      by_cases h2 : sec < 0 ∨ (ns : Int) ≤ sec
      · rw [place_none (r := ⟨sec, of_, kd, sym, add⟩) (by have := HLS.out; show sec < 0 ∨ (o.secs.length : Int) ≤ sec; omega)] at hsn
        have HSN : Hid (M = asc ((o.rels.take (j + 1)).filterMap (relPlace o.secs))) := hid (by rw [hsn, HM.out]; simp)
        clear hsn
        rcases h2 with h2 | h2
        · go_wp2
          first
            | go_roundw
            | refine ⟨?rel, ?measure⟩
          case rel => exact ⟨j + 1, A', c', M, by omega, by go_num, rfl, by omega, HO3, HX4, HSN⟩
          case measure => simp [intOf]; omega
        · have h3 : (0 : Int) ≤ sec := by omega
          go_wp2
          first
            | go_roundw
            | refine ⟨?rel, ?measure⟩
          case rel => exact ⟨j + 1, A', c', M, by omega, by go_num, rfl, by omega, HO3, HX4, HSN⟩
          case measure => simp [intOf]; omega
      · obtain ⟨k, rfl⟩ : ∃ k : Nat, sec = k := ⟨sec.toNat, by omega⟩
        obtain ⟨s, hs⟩ : ∃ s, o.secs[k]? = some s := ⟨_, List.getElem?_eq_getElem (by have := HLS.out; omega)⟩
        rw [place_some (r := ⟨k, of_, kd, sym, add⟩) rfl hs] at hsn
        obtain ⟨p, hp⟩ : ∃ p, w32 ((s.addr : Int) + of_) = p := ⟨_, rfl⟩
        obtain ⟨a, ha⟩ : ∃ a, w32 of_ = a := ⟨_, rfl⟩
        have e1 : IntKind.u32.wrap of_ = (a : Int) := by rw [wrap_w32, ha]
        have e2 : IntKind.u32.wrap ((s.addr : Int) + a) = (p : Int) := by rw [wrap_w32, ← ha, w32_addR, hp]
        have hpl : p < 4294967296 := by rw [← hp]; exact w32_lt _
        obtain ⟨M2, hM2⟩ : ∃ M2, insOf M p = M2 := ⟨_, rfl⟩
        have HM2l : Hid (M2.length ≤ M.length + 1) := hid (by rw [← hM2]; exact insOf_length M p)
        have HSN : Hid (M2 = asc ((o.rels.take (j + 1)).filterMap (relPlace o.secs))) := hid (by
          rw [hsn]
          show M2 = asc (_ ++ [w32 ((s.addr : Int) + of_)])
          rw [asc_snoc, ← HM.out, hp, hM2])
        obtain ⟨b5, o5, dA, dc, rfl, -, -, -, -, -, d1, -, -, -⟩ := (HS.out.ext HX.out).sec_at hs
        have i1 : (0 : Int) ≤ (k : Int) := by omega
        have i2 : (k : Int) < (ns : Int) := by omega
        have HIN := hid (fun (W : World) (hE : Ext wr W) => insert_any wr W hE A' M.length c' M HO.out (by omega) p hpl)
        have HM2 := hid hM2
        clear hsn hp ha hs h2 hpl hM2
        obtain ⟨W1, hW1⟩ : ∃ W1, wr.alloc (.cells #[.int .i64 k, .int .i64 of_, .int .i64 kd, .string sym, .int .i32 add] 36) = W1 := ⟨_, rfl⟩
        rw [hW1] at HX3 HX4 HO3
        have x0 : W1.cell? ⟨wr.heap.size, 0, none⟩ = some (.int .i64 k) := by rw [← hW1]; simp [go_sem]
        have x1 : W1.cell? ⟨wr.heap.size, 1, none⟩ = some (.int .i64 of_) := by rw [← hW1]; simp [go_sem]
        have o1 := HX3.out.cell o1
        have d1 := HX3.out.cell d1
        go_wp2_with fail
        clear hW1 c0 c1 c2 c3 c4 hlt o3
        refine wp_region_held_drew (S := (fun w' => w'.cell? ⟨w.heap.size, 1, none⟩ = some (.slice (some ⟨b5, o5, none⟩) ns cs) ∧ w'.cell? ⟨wr.heap.size, 0, none⟩ = some (.int .i64 k) ∧ w'.cell? ⟨wr.heap.size, 1, none⟩ = some (.int .i64 of_) ∧ w'.cell? ⟨b5, o5 + k * 5 + 1, none⟩ = some (.int .u32 s.addr))) (by kernel_rfl) ⟨o1, x0, x1, d1⟩ (fun hSg25q0 => ?_)
        refine wpAnyH_takeL (i := 0) (v := ?g25qv0) rfl (by kernel_rfl) (by kernel_rfl) (by kernel_rfl) (fun _ _ _ h => h) (Or.inl ⟨by rfl, ?g25qy0⟩) (by assumption) ?g25qr0
        case g25qy0 => first | (intro w hSw; (try dsimp only at hSw); go_simp; done) | (intro w hSw; (try dsimp only at hSw); go_simp; with_reducible rfl)
        case' g25qr0 => try simp only [Act.put, List.setIfInBounds_toArray, List.set_cons_zero, List.set_cons_succ]
        refine wpAnyH_takeL (i := 1) (v := ?g25qv1) rfl (by kernel_rfl) (by kernel_rfl) (by kernel_rfl) (fun _ _ _ h => h) (Or.inl ⟨by rfl, ?g25qy1⟩) (by assumption) ?g25qr1
        case g25qy1 => first | (intro w hSw; (try dsimp only at hSw); go_simp; done) | (intro w hSw; (try dsimp only at hSw); go_simp; with_reducible rfl)
        case' g25qr1 => try simp only [Act.put, List.setIfInBounds_toArray, List.set_cons_zero, List.set_cons_succ]
        refine wpAnyH_takeL (i := 2) (v := ?g25qv2) rfl (by kernel_rfl) (by kernel_rfl) (by kernel_rfl) (fun _ _ _ h => h) (Or.inl ⟨by rfl, ?g25qy2⟩) (by assumption) ?g25qr2
        case g25qy2 => first | (intro w hSw; (try dsimp only at hSw); go_simp; done) | (intro w hSw; (try dsimp only at hSw); go_simp; with_reducible rfl)
        case' g25qr2 => try simp only [Act.put, List.setIfInBounds_toArray, List.set_cons_zero, List.set_cons_succ]
        refine wpAnyH_takeL (i := 3) (v := ?g25qv3) rfl (by kernel_rfl) (by kernel_rfl) (by kernel_rfl) (fun _ _ _ h => h) (Or.inl ⟨by rfl, ?g25qy3⟩) (by assumption) ?g25qr3
        case g25qy3 => first | (intro w hSw; (try dsimp only at hSw); go_simp; done) | (intro w hSw; (try dsimp only at hSw); go_simp; with_reducible rfl)
        case' g25qr3 => try simp only [Act.put, List.setIfInBounds_toArray, List.set_cons_zero, List.set_cons_succ]
        refine wpAnyH_takeL (i := 4) (v := ?g25qv4) rfl (by kernel_rfl) (by kernel_rfl) (by kernel_rfl) (fun _ _ _ h => h) (Or.inl ⟨by rfl, ?g25qy4⟩) (by assumption) ?g25qr4
        case g25qy4 => first | (intro w hSw; (try dsimp only at hSw); go_simp; done) | (intro w hSw; (try dsimp only at hSw); go_simp; with_reducible rfl)
        case' g25qr4 => try simp only [Act.put, List.setIfInBounds_toArray, List.set_cons_zero, List.set_cons_succ]
        refine wpAnyH_takeL (i := 5) (v := ?g25qv5) rfl (by kernel_rfl) (by kernel_rfl) (by kernel_rfl) (fun _ _ _ h => h) (Or.inl ⟨by rfl, ?g25qy5⟩) (by assumption) ?g25qr5
        case g25qy5 => first | (intro w hSw; (try dsimp only at hSw); go_simp; done) | (intro w hSw; (try dsimp only at hSw); go_simp; with_reducible rfl)
        case' g25qr5 => try simp only [Act.put, List.setIfInBounds_toArray, List.set_cons_zero, List.set_cons_succ]
        refine wpAnyH_takeL (i := 6) (v := ?g25qv6) rfl (by kernel_rfl) (by kernel_rfl) (by kernel_rfl) (fun _ _ _ h => h) (Or.inl ⟨by rfl, ?g25qy6⟩) (by assumption) ?g25qr6
        case g25qy6 => first | (intro w hSw; (try dsimp only at hSw); go_simp; done) | (intro w hSw; (try dsimp only at hSw); go_simp; with_reducible rfl)
        case' g25qr6 => try simp only [Act.put, List.setIfInBounds_toArray, List.set_cons_zero, List.set_cons_succ]
        refine wpAnyH_takeL (i := 7) (v := ?g25qv7) rfl (by kernel_rfl) (by kernel_rfl) (by kernel_rfl) (fun _ _ _ h => h) (Or.inl ⟨by rfl, ?g25qy7⟩) (by assumption) ?g25qr7
        case g25qy7 => first | (intro w hSw; (try dsimp only at hSw); go_simp; done) | (intro w hSw; (try dsimp only at hSw); go_simp; with_reducible rfl)
        case' g25qr7 => try simp only [Act.put, List.setIfInBounds_toArray, List.set_cons_zero, List.set_cons_succ]
        refine wpAnyH_takeL (i := 8) (v := ?g25qv8) rfl (by kernel_rfl) (by kernel_rfl) (by kernel_rfl) (fun _ _ _ h => h) (Or.inl ⟨by rfl, ?g25qy8⟩) (by assumption) ?g25qr8
        case g25qy8 => first | (intro w hSw; (try dsimp only at hSw); go_simp; done) | (intro w hSw; (try dsimp only at hSw); go_simp; with_reducible rfl)
        case' g25qr8 => try simp only [Act.put, List.setIfInBounds_toArray, List.set_cons_zero, List.set_cons_succ]
        refine wpAnyH_takeL (i := 9) (v := ?g25qv9) rfl (by kernel_rfl) (by kernel_rfl) (by kernel_rfl) (fun _ _ _ h => h) (Or.inl ⟨by rfl, ?g25qy9⟩) (by assumption) ?g25qr9
        case g25qy9 => first | (intro w hSw; (try dsimp only at hSw); go_simp; done) | (intro w hSw; (try dsimp only at hSw); go_simp; with_reducible rfl)
        case' g25qr9 => try simp only [Act.put, List.setIfInBounds_toArray, List.set_cons_zero, List.set_cons_succ]
        refine wpAnyH_takeL (i := 10) (v := ?g25qv10) rfl (by kernel_rfl) (by kernel_rfl) (by kernel_rfl) (fun _ _ _ h => h) (Or.inl ⟨by rfl, ?g25qy10⟩) (by assumption) ?g25qr10
        case g25qy10 => first | (intro w hSw; (try dsimp only at hSw); go_simp; done) | (intro w hSw; (try dsimp only at hSw); go_simp; with_reducible rfl)
        case' g25qr10 => try simp only [Act.put, List.setIfInBounds_toArray, List.set_cons_zero, List.set_cons_succ]
        refine wpAnyH_takeL (i := 11) (v := ?g25qv11) rfl (by kernel_rfl) (by kernel_rfl) (by kernel_rfl) (fun _ _ _ h => h) (Or.inl ⟨by rfl, ?g25qy11⟩) (by assumption) ?g25qr11
        case g25qy11 => first | (intro w hSw; (try dsimp only at hSw); go_simp; done) | (intro w hSw; (try dsimp only at hSw); go_simp; with_reducible rfl)
        case' g25qr11 => try simp only [Act.put, List.setIfInBounds_toArray, List.set_cons_zero, List.set_cons_succ]
        refine wpAnyH_ready (rs := [12]) (by kernel_rfl) (by simp) ?_
        refine AllReadyH.consL rfl (fun K hK => ?_) AllReadyH.nil
        go_simp
        go_at_call 38
        refine (HIN.out _ (HX3.out.drew)).mono ?_
        rintro e w5 ⟨hx5, A5, c5, rfl, hs5⟩
        rw [HM2.out] at hs5 ⊢
        have HX5 := hid ((Ext.refl W1).drew.trans hx5)
        have HS5 := hid hs5
        clear hx5 hs5
        refine hK.out _ _ ⟨HX5.out.cell o1, HX5.out.cell x0, HX5.out.cell x1, HX5.out.cell d1⟩ (fun hSg25q1 => ?_)
        clear hK K
        try simp only [Act.put, List.setIfInBounds_toArray, List.set_cons_zero, List.set_cons_succ]
        refine wpAnyH_takeL (i := 13) (v := ?g25qv13) rfl (by kernel_rfl) (by kernel_rfl) (by kernel_rfl) (fun _ _ _ h => h) (Or.inl ⟨by rfl, ?g25qy13⟩) (by assumption) ?g25qr13
        case g25qy13 => first | (intro w hSw; (try dsimp only at hSw); go_simp; done) | (intro w hSw; (try dsimp only at hSw); go_simp; with_reducible rfl)
        case' g25qr13 => try simp only [Act.put, List.setIfInBounds_toArray, List.set_cons_zero, List.set_cons_succ]
        refine wpAnyH_done (by kernel_rfl) ?_ _
        clear o1 x0 x1 d1
        have HX6 := hid (HX4.out.trans HX5.out)
        go_wp2
        first
          | go_roundw
          | refine ⟨?rel, ?measure⟩
        case rel => exact ⟨j + 1, A5, c5, M2, by omega, by go_num, rfl, by have := HM2l.out; omega, HS5, HX6, HSN⟩
        case measure => simp [intOf]; omega
    · obtain rfl : j = nr := by omega
      have he : M = L := by
        rw [HM.out, List.take_of_length_le (by have := HLR.out; omega)]
        exact HL.out
      subst he
      go_wp2
      go_ret
      exact ⟨HE0.out.trans HX.out, A', c', rfl, HO.out⟩
end Go.Proofs.Ytnlofhbimfcejaa
