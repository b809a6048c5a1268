/- CoverageInputs, CoverageInputsMore: the laws' walks. -/
import Derived.Test.YtcddmggefmfkkaaInpA
import Derived.Test.YtcddmggefmfkkaaExaA
namespace Go.Proofs.Ytcddmggefmfkkaa
open Go.RowKit Go.Deco
set_option linter.unusedSimpArgs false
set_option linter.unusedVariables false

set_option maxRecDepth 100000 in
set_option maxHeartbeats 2000000 in
theorem lists_any (w : World) (A B : Option Addr) (n c d : Nat) (o : List (List Nat)) (hl : Sl (slR u32R) w All (.slice A n c) o) (hr : Sl (slR u32R) w All (.slice B n d) o) :
    Calls Try.prog 17 #[.slice A n c, .slice B n d] w (OneBool w true) := by
  have hln := hl.len
  obtain ⟨hnc, hcm⟩ := hl.cap
  obtain ⟨hnd, hdm⟩ := hr.cap
  have HL := hid hl; clear hl
  have HR := hid hr; clear hr
  have HN := hid hln; clear hln
  have hnn : ((n : Int) != (n : Int)) = false := by simp
  go_enter Try.func17, Try.ntmps17
  go_wp2
  clear hnn
  go_loopw [5] (fun i wr => ∃ k : Nat, k ≤ n ∧ i = .int .i64 k ∧ Hid (Ext w wr)) (fun i _ => n - (intOf i).toNat)
  case atStart => exact ⟨0, by omega, rfl, hid (Ext.refl _)⟩
  case round =>
    obtain ⟨k, hk, rfl, hx⟩ := hrel
    by_cases h1 : k < n
    · obtain ⟨C, hC⟩ : ∃ C, o[k]? = some C := ⟨_, List.getElem?_eq_getElem (by have := HN.out; omega)⟩
      obtain ⟨b, off, cA, cc, rfl, q1, hs1⟩ := Sl_ss_at (HL.out.ext hx.out) hC
      obtain ⟨b', off', dA, dc, rfl, q2, hs2⟩ := Sl_ss_at (HR.out.ext hx.out) hC
      have HS1 := hid hs1; clear hs1
      have HS2 := hid hs2; clear hs2
      have hk0 : (0 : Int) ≤ (k : Int) := by omega
      have hk1 : (k : Int) < (n : Int) := by omega
      clear hC
      go_wp2_with fail
      refine wp_region_held_drew (S := (fun w' => w'.cell? ⟨b, off + k, none⟩ = some (.slice cA C.length cc) ∧ w'.cell? ⟨b', off' + k, none⟩ = some (.slice dA C.length dc))) (by kernel_rfl) ⟨q1, q2⟩ (fun hSR0 => ?_)
      refine wpAnyH_takeL (i := 0) (v := ?Rv0) rfl (by kernel_rfl) (by kernel_rfl) (by kernel_rfl) (fun _ _ _ h => h) (Or.inl ⟨by rfl, ?Ry0⟩) (by assumption) ?Rr0
      case Ry0 => first | (intro w hSw; (try dsimp only at hSw); go_simp; done) | (intro w hSw; (try dsimp only at hSw); go_simp; with_reducible rfl)
      case' Rr0 => try simp only [Act.put, List.setIfInBounds_toArray, List.set_cons_zero, List.set_cons_succ]
      refine wpAnyH_takeL (i := 1) (v := ?Rv1) rfl (by kernel_rfl) (by kernel_rfl) (by kernel_rfl) (fun _ _ _ h => h) (Or.inl ⟨by rfl, ?Ry1⟩) (by assumption) ?Rr1
      case Ry1 => first | (intro w hSw; (try dsimp only at hSw); go_simp; done) | (intro w hSw; (try dsimp only at hSw); go_simp; with_reducible rfl)
      case' Rr1 => try simp only [Act.put, List.setIfInBounds_toArray, List.set_cons_zero, List.set_cons_succ]
      refine wpAnyH_takeL (i := 2) (v := ?Rv2) rfl (by kernel_rfl) (by kernel_rfl) (by kernel_rfl) (fun _ _ _ h => h) (Or.inl ⟨by rfl, ?Ry2⟩) (by assumption) ?Rr2
      case Ry2 => first | (intro w hSw; (try dsimp only at hSw); go_simp; done) | (intro w hSw; (try dsimp only at hSw); go_simp; with_reducible rfl)
      case' Rr2 => try simp only [Act.put, List.setIfInBounds_toArray, List.set_cons_zero, List.set_cons_succ]
      refine wpAnyH_takeL (i := 3) (v := ?Rv3) rfl (by kernel_rfl) (by kernel_rfl) (by kernel_rfl) (fun _ _ _ h => h) (Or.inl ⟨by rfl, ?Ry3⟩) (by assumption) ?Rr3
      case Ry3 => first | (intro w hSw; (try dsimp only at hSw); go_simp; done) | (intro w hSw; (try dsimp only at hSw); go_simp; with_reducible rfl)
      case' Rr3 => try simp only [Act.put, List.setIfInBounds_toArray, List.set_cons_zero, List.set_cons_succ]
      refine wpAnyH_takeL (i := 4) (v := ?Rv4) rfl (by kernel_rfl) (by kernel_rfl) (by kernel_rfl) (fun _ _ _ h => h) (Or.inl ⟨by rfl, ?Ry4⟩) (by assumption) ?Rr4
      case Ry4 => first | (intro w hSw; (try dsimp only at hSw); go_simp; done) | (intro w hSw; (try dsimp only at hSw); go_simp; with_reducible rfl)
      case' Rr4 => try simp only [Act.put, List.setIfInBounds_toArray, List.set_cons_zero, List.set_cons_succ]
      refine wpAnyH_takeL (i := 5) (v := ?Rv5) rfl (by kernel_rfl) (by kernel_rfl) (by kernel_rfl) (fun _ _ _ h => h) (Or.inl ⟨by rfl, ?Ry5⟩) (by assumption) ?Rr5
      case Ry5 => first | (intro w hSw; (try dsimp only at hSw); go_simp; done) | (intro w hSw; (try dsimp only at hSw); go_simp; with_reducible rfl)
      case' Rr5 => try simp only [Act.put, List.setIfInBounds_toArray, List.set_cons_zero, List.set_cons_succ]
      refine wpAnyH_takeL (i := 6) (v := ?Rv6) rfl (by kernel_rfl) (by kernel_rfl) (by kernel_rfl) (fun _ _ _ h => h) (Or.inl ⟨by rfl, ?Ry6⟩) (by assumption) ?Rr6
      case Ry6 => first | (intro w hSw; (try dsimp only at hSw); go_simp; done) | (intro w hSw; (try dsimp only at hSw); go_simp; with_reducible rfl)
      case' Rr6 => try simp only [Act.put, List.setIfInBounds_toArray, List.set_cons_zero, List.set_cons_succ]
      refine wpAnyH_takeL (i := 7) (v := ?Rv7) rfl (by kernel_rfl) (by kernel_rfl) (by kernel_rfl) (fun _ _ _ h => h) (Or.inl ⟨by rfl, ?Ry7⟩) (by assumption) ?Rr7
      case Ry7 => first | (intro w hSw; (try dsimp only at hSw); go_simp; done) | (intro w hSw; (try dsimp only at hSw); go_simp; with_reducible rfl)
      case' Rr7 => try simp only [Act.put, List.setIfInBounds_toArray, List.set_cons_zero, List.set_cons_succ]
      refine wpAnyH_ready (rs := [8]) (by kernel_rfl) (by simp) ?_
      refine AllReadyH.consL rfl (fun K hK => ?_) AllReadyH.nil
      go_simp
      go_at_call 24
      refine (words_any _ _ (Ext.refl _) cA dA C.length C.length cc dc C C (HS1.out.ext ((Ext.refl _).drew)) (HS2.out.ext ((Ext.refl _).drew))).mono ?_
      rintro e w6 ⟨rfl, hx6⟩
      have hd : decide (C = C) = true := by simp
      rw [hd]
      have HX6 := hid hx6.drew_left
      clear hx6 hd
      refine hK.out _ _ ⟨HX6.out.cell q1, HX6.out.cell q2⟩ (fun hSR1 => ?_)
      clear hK K
      try simp only [Act.put, List.setIfInBounds_toArray, List.set_cons_zero, List.set_cons_succ]
      refine wpAnyH_takeL (i := 9) (v := ?Rv9) rfl (by kernel_rfl) (by kernel_rfl) (by kernel_rfl) (fun _ _ _ h => h) (Or.inl ⟨by rfl, ?Ry9⟩) (by assumption) ?Rr9
      case Ry9 => first | (intro w hSw; (try dsimp only at hSw); go_simp; done) | (intro w hSw; (try dsimp only at hSw); go_simp; with_reducible rfl)
      case' Rr9 => try simp only [Act.put, List.setIfInBounds_toArray, List.set_cons_zero, List.set_cons_succ]
      refine wpAnyH_done (by kernel_rfl) ?_ _
      go_wp2
      first
        | go_roundw
        | refine ⟨?rel, ?measure⟩
      case rel => exact ⟨k + 1, by omega, by go_num, hid (hx.out.trans HX6.out)⟩
      case measure => simp [intOf]; omega
    · go_wp2
      go_ret
      exact ⟨rfl, hx.out⟩

set_option maxRecDepth 100000 in
set_option maxHeartbeats 2000000 in
theorem inputslaw_any (w : World) (s : Nat) (hs : s < 4294967296) (n : Int) (hn1 : -9223372036854775808 ≤ n) (hn2 : n ≤ 9223372036854775807) (len : Int) (hl1 : -9223372036854775808 ≤ len) (hl2 : len ≤ 9223372036854775807) :
    Calls Try.prog 4 #[.int .u32 s, .int .i64 n, .int .i64 len] w (OneBool w true) := by
  by_cases h1 : len ≤ 20
  · by_cases h2 : n ≤ 30
    · have h1' : ¬ (len > 20) := by omega
      have h2' : ¬ (n > 30) := by omega
      go_enter Try.func4, Try.ntmps4
      go_wp2_with fail
      refine (inputs_any w s hs n len h1).mono ?_
      rintro e w1 ⟨hx1, A1, c1, rfl, hs1⟩
      have HX1 := hid hx1
      have HS1 := hid hs1
      clear hx1 hs1
      go_wp2_with fail
      refine (rinputs_any w1 s hs n len h1).mono ?_
      rintro e w2 ⟨hx2, A2, c2, rfl, hs2⟩
      have HX2 := hid hx2
      have HS2 := hid hs2
      clear hx2 hs2
      go_wp2_with fail
      refine (lists_any w2 A1 A2 _ c1 c2 _ (HS1.out.ext HX2.out) HS2.out).mono ?_
      rintro e w3 ⟨rfl, hx3⟩
      have HX3 := hid hx3; clear hx3
      go_wp2_with fail
      refine (example_any _).mono ?_
      rintro e wz ⟨rfl, hxz⟩
      have HXZ := hid hxz; clear hxz
      go_wp2
      go_ret
      exact ⟨by simp, HX1.out.trans (HX2.out.trans (HX3.out.trans HXZ.out))⟩
    · by_cases h3 : n < 1000000
      · have h1' : ¬ (len > 20) := by omega
        have h2' : n > 30 := by omega
        go_enter Try.func4, Try.ntmps4
        go_wp2_with fail
        refine (example_any _).mono ?_
        rintro e wz ⟨rfl, hxz⟩
        have HXZ := hid hxz; clear hxz
        go_wp2
        go_ret
        exact ⟨by simp, HXZ.out⟩
      · have h1' : ¬ (len > 20) := by omega
        have h2' : n > 30 := by omega
        go_enter Try.func4, Try.ntmps4
        go_wp2_with fail
        refine (inputs_any w s hs n len h1).mono ?_
        rintro e w1 ⟨hx1, A1, c1, rfl, hs1⟩
        have HX1 := hid hx1
        have HS1 := hid hs1
        clear hx1 hs1
        go_wp2_with fail
        refine (rinputs_any w1 s hs n len h1).mono ?_
        rintro e w2 ⟨hx2, A2, c2, rfl, hs2⟩
        have HX2 := hid hx2
        have HS2 := hid hs2
        clear hx2 hs2
        go_wp2_with fail
        refine (lists_any w2 A1 A2 _ c1 c2 _ (HS1.out.ext HX2.out) HS2.out).mono ?_
        rintro e w3 ⟨rfl, hx3⟩
        have HX3 := hid hx3; clear hx3
        go_wp2_with fail
        refine (example_any _).mono ?_
        rintro e wz ⟨rfl, hxz⟩
        have HXZ := hid hxz; clear hxz
        go_wp2
        go_ret
        exact ⟨by simp, HX1.out.trans (HX2.out.trans (HX3.out.trans HXZ.out))⟩
  · have h1' : len > 20 := by omega
    go_enter Try.func4, Try.ntmps4
    go_wp2_with fail
    refine (example_any _).mono ?_
    rintro e wz ⟨rfl, hxz⟩
    have HXZ := hid hxz; clear hxz
    go_wp2
    go_ret
    exact ⟨by simp, HXZ.out⟩

set_option maxRecDepth 100000 in
set_option maxHeartbeats 2000000 in
theorem morelaw_any (w : World) (s : Nat) (hs : s < 4294967296) (t : Nat) (ht : t < 4294967296) (len : Int) (hl1 : -9223372036854775808 ≤ len) (hl2 : len ≤ 9223372036854775807) :
    Calls Try.prog 5 #[.int .u32 s, .int .u32 t, .int .i64 len] w (OneBool w true) := by
  by_cases h0 : len < 0
  · go_enter Try.func5, Try.ntmps5
    go_wp2_with fail
    refine (example_any _).mono ?_
    rintro e wz ⟨rfl, hxz⟩
    have HXZ := hid hxz; clear hxz
    go_wp2
    go_ret
    exact ⟨by simp, HXZ.out⟩
  · have h0' : ¬ (len < 0) := h0
    by_cases h1 : len > 20
    · go_enter Try.func5, Try.ntmps5
      go_wp2_with fail
      refine (example_any _).mono ?_
      rintro e wz ⟨rfl, hxz⟩
      have HXZ := hid hxz; clear hxz
      go_wp2
      go_ret
      exact ⟨by simp, HXZ.out⟩
    · obtain ⟨k, rfl⟩ : ∃ k : Nat, len = k := ⟨len.toNat, by omega⟩
      have hk20 : (k : Int) ≤ 20 := by omega
      go_enter Try.func5, Try.ntmps5
      go_wp2_with fail
      refine (inputs_any w s hs 9 k hk20).mono ?_
      rintro e w1 ⟨hx1, A1, c1, rfl, hs1⟩
      have e1 : (inputsI s (numI 9) (k : Int).toNat).length = 9 := by simp [inputsI, numI]
      rw [e1] at hs1 ⊢
      have hcap1 := hs1.cap
      have HX1 := hid hx1
      have HS1 := hid hs1
      clear hx1 hs1 e1
      go_wp2_with fail
      refine (inputs_any w1 s hs 30 k hk20).mono ?_
      rintro e w2 ⟨hx2, A2, c2, rfl, hs2⟩
      have e1 : (inputsI s (numI 30) (k : Int).toNat).length = 30 := by simp [inputsI, numI]
      rw [e1] at hs2 ⊢
      have hcap2 := hs2.cap
      have HX2 := hid hx2
      have HS2 := hid hs2
      clear hx2 hs2 e1
      go_wp2_with fail
      refine (inputs_any w2 t ht 3 k hk20).mono ?_
      rintro e w3 ⟨hx3, A3, c3, rfl, hs3⟩
      have e1 : (inputsI t (numI 3) (k : Int).toNat).length = 3 := by simp [inputsI, numI]
      rw [e1] at hs3 ⊢
      have hcap3 := hs3.cap
      have HX3 := hid hx3
      have HS3 := hid hs3
      obtain ⟨hc11, hc12⟩ := hcap1
      obtain ⟨hc21, hc22⟩ := hcap2
      obtain ⟨hc31, hc32⟩ := hcap3
      clear hx3 hs3 e1
      go_wp2_with fail
      go_loop [10] (fun i => ∃ q : Nat, q ≤ 30 ∧ i = .int .i64 q) (fun i => 30 - (intOf i).toNat)
      case atStart => exact ⟨0, by omega, rfl⟩
      case round =>
        obtain ⟨q, hq, rfl⟩ := hrel
        by_cases hq30 : (q : Int) < 30
        · obtain ⟨C, hC⟩ : ∃ C, (inputsI s (numI 30) (k : Int).toNat)[q]? = some C := ⟨_, List.getElem?_eq_getElem (by simp [inputsI, numI]; omega)⟩
          obtain ⟨b, off, cA, cc, rfl, q1, -⟩ := Sl_ss_at (HS2.out.ext HX3.out) hC
          have hCl : C.length = k := by
            unfold inputsI at hC
            rw [List.getElem?_map, List.getElem?_eq_some_iff.2 ⟨by simp [numI]; omega, rfl⟩] at hC
            injection hC with hC
            rw [← hC, row_len]
            simp
          rw [hCl] at q1
          have hne : ((k : Int) != (k : Int)) = false := by simp
          clear hC hCl
          go_wp2
          first
            | go_round
            | refine ⟨?rel, ?measure⟩
          case rel => exact ⟨q + 1, by omega, by go_num⟩
          case measure => simp [intOf]; omega
        · obtain rfl : q = 30 := by omega
          have HB := hid (HS2.out.ext HX3.out)
          obtain ⟨b, off, rfl⟩ := HB.out.at0 (by omega)
          have hb9 : Sl (slR u32R) w3 All (.slice (some ⟨b, off, none⟩) 9 c2) (inputsI s (numI 9) (k : Int).toNat) := by
            have h := HB.out.take (k := 9) (by omega)
            rw [inputsI_take s (numI 30) 9 _ (by simp [numI])] at h
            exact h
          have hb3 : Sl (slR u32R) w3 All (.slice (some ⟨b, off, none⟩) 3 c2) (inputsI t (numI 3) (k : Int).toNat) := by
            have h := HB.out.take (k := 3) (by omega)
            rw [inputsI_take s (numI 30) 3 _ (by simp [numI]), inputsI_three s t] at h
            exact h
          have HB9 := hid hb9
          have HB3 := hid hb3
          clear hb9 hb3
          go_wp2_with fail
          refine (lists_any w3 A1 _ 9 c1 c2 _ ((HS1.out.ext HX2.out).ext HX3.out) HB9.out).mono ?_
          rintro e w4 ⟨rfl, hx4⟩
          have HX4 := hid hx4; clear hx4
          go_wp2_with fail
          refine (lists_any w4 A3 _ 3 c3 c2 _ (HS3.out.ext HX4.out) (HB3.out.ext HX4.out)).mono ?_
          rintro e w5 ⟨rfl, hx5⟩
          have HX5 := hid hx5; clear hx5
          go_wp2_with fail
          refine (example_any _).mono ?_
          rintro e wz ⟨rfl, hxz⟩
          have HXZ := hid hxz; clear hxz
          go_wp2
          go_ret
          exact ⟨by simp, HX1.out.trans (HX2.out.trans (HX3.out.trans (HX4.out.trans (HX5.out.trans HXZ.out))))⟩
end Go.Proofs.Ytcddmggefmfkkaa
