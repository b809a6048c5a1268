/- law17.code, numbers; CfgLeaders: the law's walk. -/
import Derived.Test.YtolbnhkdpbdhhaaLeaA
import Derived.Test.YtolbnhkdpbdhhaaL17A
import Derived.Test.YtolbnhkdpbdhhaaCfgE
namespace Go.Proofs.Ytolbnhkdpbdhhaa
open Go.RowKit Go.Deco
set_option linter.unusedSimpArgs false
set_option linter.unusedVariables false
set_option maxRecDepth 100000

theorem lcode_any (w : World) (A E U B : Option Addr) (n c ne ce nu cu nb cb : Nat) :
    Calls Try.prog 13 #[.agg #[.slice A n c, .slice E ne ce, .slice U nu cu, .slice B nb cb]] w fun e w' => e = .returned (.agg #[.slice A n c, .slice E ne ce, .slice U nu cu, .slice B nb cb]) ∧ Ext w w' := by
  go_enter Try.func13, Try.ntmps13
  go_wp2
  refine bodyPost_ret (v := .agg #[.slice A n c, .slice E ne ce, .slice U nu cu, .slice B nb cb]) (by simp [results, Try.results13, go_sem, World.cell?_setCell_same, World.cell?_setCell_other]) rfl ?_
  exact ⟨rfl, ((Ext.refl w).alloc _).alloc _⟩

set_option maxHeartbeats 4000000 in
theorem nums_any (w : World) (A B : Option Addr) (n c d : Nat) (l : List Nat) (hl : Sl u32R w All (.slice A n c) l) (hr : Sl u32R w All (.slice B n d) l) :
    Calls Try.prog 15 #[.slice A n c, .slice B n d] w (OneBool w true) := by
  have HLN := hid hl.len
  have hcap := hl.cap
  have hcap2 := hr.cap
  have HS := hid hl
  have HS2 := hid hr
  have hnn : ((n : Int) != (n : Int)) = false := by simp
  clear hl hr
  go_enter Try.func15, Try.ntmps15
  go_wp2
  go_loopw [5] (fun i wr => ∃ j : Nat, j ≤ n ∧ i = .int .i64 j ∧ Hid (Ext w wr)) (fun i _ => n - (intOf i).toNat)
  case atStart => exact ⟨0, by omega, rfl, hid (Ext.refl _)⟩
  case round =>
    obtain ⟨j, hj, rfl, HX⟩ := hrel
    by_cases h1 : j < n
    · obtain ⟨x, hx⟩ : ∃ x, l[j]? = some x := ⟨_, List.getElem?_eq_getElem (by have := HLN.out; omega)⟩
      obtain ⟨b, o, rfl, e1, -⟩ := (HS.out.ext HX.out).num_at hx
      obtain ⟨b', o', rfl, e2, -⟩ := (HS2.out.ext HX.out).num_at hx
      have hxx : ((x : Int) != (x : Int)) = false := by simp
      clear hx
      go_wp2
      go_quiet (fail)
      go_wp2
      first
        | go_roundw
        | refine ⟨?rel, ?measure⟩
      case rel => exact ⟨j + 1, by omega, by go_num, hid (HX.out.drewN _)⟩
      case measure => simp [intOf]; omega
    · obtain rfl : j = n := by omega
      go_wp2
      go_ret
      exact ⟨rfl, HX.out⟩

set_option maxHeartbeats 4000000 in
theorem leaders_any (w : World) (A E U B T Q : Option Addr) (n c ne ce nu cu nb cb nt ct nq cq : Nat) (ins : List In) (entries : List Nat) (tabs : List (List Nat)) (at_ : List Nat) (hi : Sl insR w All (.slice A n c) ins) (he : Sl u32R w All (.slice E ne ce) entries)
    (ht : Sl u32sR w All (.slice T nt ct) tabs) (hq : Sl u32R w All (.slice Q nq cq) at_) :
    Calls Try.prog 4 #[.agg #[.slice A n c, .slice E ne ce, .slice U nu cu, .slice B nb cb], .slice T nt ct, .slice Q nq cq] w (OneBool w true) := by
  obtain ⟨W0, hW0⟩ : ∃ W0, w.alloc (.cells #[.slice A n c, .slice E ne ce, .slice U nu cu, .slice B nb cb] 25) = W0 := ⟨_, rfl⟩
  have hE : Ext w W0 := by rw [← hW0]; exact (Ext.refl w).alloc _
  have q0 : W0.cell? ⟨w.heap.size, 0, none⟩ = some (.slice A n c) := by rw [← hW0]; simp [go_sem]
  have q1 : W0.cell? ⟨w.heap.size, 1, none⟩ = some (.slice E ne ce) := by rw [← hW0]; simp [go_sem]
  have q2 : W0.cell? ⟨w.heap.size, 2, none⟩ = some (.slice U nu cu) := by rw [← hW0]; simp [go_sem]
  have q3 : W0.cell? ⟨w.heap.size, 3, none⟩ = some (.slice B nb cb) := by rw [← hW0]; simp [go_sem]
  have HLG := hid (fun W (h : Ext w W) => large_any W A E U B T n c ne ce nu cu nb cb nt ct tabs (ht.ext h))
  have hq9 : nq ≤ 9223372036854775807 := Nat.le_trans hq.cap.1 hq.cap.2
  have HCL := hid (fun W (h : Ext w W) (hn : n ≤ 600) (hne : ne ≤ 600) (htl : ∀ t ∈ tabs, t.length ≤ 100) => cleaders_any W A E U B T Q n c ne ce nu cu nb cb nt ct nq cq ins entries tabs at_ (hi.ext h) (he.ext h) (ht.ext h) (hq.ext h) hn hne hq9 (fun t ht => Nat.le_trans (htl t ht) (by omega)))
  have HRL := hid (fun W (h : Ext w W) (hn : n ≤ 600) => rleaders_any W A E U B T Q n c ne ce nu cu nb cb nt ct nq cq ins entries tabs at_ (hi.ext h) (he.ext h) (ht.ext h) (hq.ext h) (Nat.le_trans hn (by omega)))
  obtain ⟨G, hG⟩ : ∃ G, largeB n ne nt tabs = G := ⟨_, rfl⟩
  have HG := hid hG
  rw [hG] at HLG
  have HE := hid hE
  obtain ⟨R, hR⟩ : ∃ R, leadL ins entries tabs at_ = R := ⟨_, rfl⟩
  rw [hR] at HCL HRL
  clear hi he ht hq hq9 hE hG hR
  go_enter Try.func4, Try.ntmps4
  go_wp2_with fail
  refine (HLG.out W0 HE.out).mono ?_
  rintro e w1 ⟨rfl, hx1⟩
  have q0 := hx1.cell q0
  have q1 := hx1.cell q1
  have q2 := hx1.cell q2
  have q3 := hx1.cell q3
  have HX1 := hid (HE.out.trans hx1)
  clear hx1 hW0
  cases G with
  | true =>
    go_wp2_with fail
    refine (example_any _).mono ?_
    rintro e wz ⟨rfl, hxz⟩
    have HXZ := hid hxz; clear hxz
    go_wp2
    go_ret
    exact ⟨rfl, HX1.out.trans HXZ.out⟩
  | false =>
    obtain ⟨hs1, hs2, -, hs3⟩ := largeB_small HG.out
    have HA := hid (fun W h => HCL.out W h hs1 hs2 hs3)
    have HB := hid (fun W h => HRL.out W h hs1)
    have HN := hid (fun W A' c' B' d' (h1 : Sl u32R W All (.slice A' R.length c') R) (h2 : Sl u32R W All (.slice B' R.length d') R) => nums_any W A' B' R.length c' d' R h1 h2)
    clear hs1 hs2 hs3
    go_wp2_with fail
    refine wp_region_held_drew (S := (fun w' => w'.cell? ⟨w.heap.size, 0, none⟩ = some (.slice A n c) ∧ w'.cell? ⟨w.heap.size, 1, none⟩ = some (.slice E ne ce) ∧ w'.cell? ⟨w.heap.size, 2, none⟩ = some (.slice U nu cu) ∧ w'.cell? ⟨w.heap.size, 3, none⟩ = some (.slice B nb cb))) (by kernel_rfl) ⟨q0, q1, q2, q3⟩ (fun hSg1q0 => ?_)
    refine wpAnyH_takeL (i := 0) (v := ?g1qv0) rfl (by kernel_rfl) (by kernel_rfl) (by kernel_rfl) (fun _ _ _ h => h) (Or.inl ⟨by rfl, ?g1qy0⟩) (by assumption) ?g1qr0
    case g1qy0 => first | (intro w hSw; (try dsimp only at hSw); go_simp; done) | (intro w hSw; (try dsimp only at hSw); go_simp; with_reducible rfl)
    case' g1qr0 => try simp only [Act.put, List.setIfInBounds_toArray, List.set_cons_zero, List.set_cons_succ]
    refine wpAnyH_takeL (i := 1) (v := ?g1qv1) rfl (by kernel_rfl) (by kernel_rfl) (by kernel_rfl) (fun _ _ _ h => h) (Or.inl ⟨by rfl, ?g1qy1⟩) (by assumption) ?g1qr1
    case g1qy1 => first | (intro w hSw; (try dsimp only at hSw); go_simp; done) | (intro w hSw; (try dsimp only at hSw); go_simp; with_reducible rfl)
    case' g1qr1 => try simp only [Act.put, List.setIfInBounds_toArray, List.set_cons_zero, List.set_cons_succ]
    refine wpAnyH_takeL (i := 2) (v := ?g1qv2) rfl (by kernel_rfl) (by kernel_rfl) (by kernel_rfl) (fun _ _ _ h => h) (Or.inl ⟨by rfl, ?g1qy2⟩) (by assumption) ?g1qr2
    case g1qy2 => first | (intro w hSw; (try dsimp only at hSw); go_simp; done) | (intro w hSw; (try dsimp only at hSw); go_simp; with_reducible rfl)
    case' g1qr2 => try simp only [Act.put, List.setIfInBounds_toArray, List.set_cons_zero, List.set_cons_succ]
    refine wpAnyH_takeL (i := 4) (v := ?g1qv4) rfl (by kernel_rfl) (by kernel_rfl) (by kernel_rfl) (fun _ _ _ h => h) (Or.inl ⟨by rfl, ?g1qy4⟩) (by assumption) ?g1qr4
    case g1qy4 => first | (intro w hSw; (try dsimp only at hSw); go_simp; done) | (intro w hSw; (try dsimp only at hSw); go_simp; with_reducible rfl)
    case' g1qr4 => try simp only [Act.put, List.setIfInBounds_toArray, List.set_cons_zero, List.set_cons_succ]
    refine wpAnyH_takeL (i := 6) (v := ?g1qv6) rfl (by kernel_rfl) (by kernel_rfl) (by kernel_rfl) (fun _ _ _ h => h) (Or.inl ⟨by rfl, ?g1qy6⟩) (by assumption) ?g1qr6
    case g1qy6 => first | (intro w hSw; (try dsimp only at hSw); go_simp; done) | (intro w hSw; (try dsimp only at hSw); go_simp; with_reducible rfl)
    case' g1qr6 => try simp only [Act.put, List.setIfInBounds_toArray, List.set_cons_zero, List.set_cons_succ]
    refine wpAnyH_takeL (i := 7) (v := ?g1qv7) rfl (by kernel_rfl) (by kernel_rfl) (by kernel_rfl) (fun _ _ _ h => h) (Or.inl ⟨by rfl, ?g1qy7⟩) (by assumption) ?g1qr7
    case g1qy7 => first | (intro w hSw; (try dsimp only at hSw); go_simp; done) | (intro w hSw; (try dsimp only at hSw); go_simp; with_reducible rfl)
    case' g1qr7 => try simp only [Act.put, List.setIfInBounds_toArray, List.set_cons_zero, List.set_cons_succ]
    refine wpAnyH_ready (rs := [3]) (by kernel_rfl) (by simp) ?_
    refine AllReadyH.consL rfl (fun K hK => ?_) AllReadyH.nil
    go_simp
    go_at_call 16
    refine (HA.out _ HX1.out.drew).mono ?_
    rintro e w5 ⟨hx5, A5, c5, rfl, hs5⟩
    have HX5 := hid hx5.drew_left
    have HS5 := hid hs5
    clear hx5 hs5
    refine hK.out _ _ ⟨HX5.out.cell q0, HX5.out.cell q1, HX5.out.cell q2, HX5.out.cell q3⟩ (fun hSg1q1 => ?_)
    clear hK K
    try simp only [Act.put, List.setIfInBounds_toArray, List.set_cons_zero, List.set_cons_succ]
    refine wpAnyH_ready (rs := [5]) (by kernel_rfl) (by simp) ?_
    refine AllReadyH.consL rfl (fun K hK => ?_) AllReadyH.nil
    go_simp
    go_at_call 13
    refine (lcode_any _ A E U B n c ne ce nu cu nb cb).mono ?_
    rintro e w6 ⟨rfl, hx6⟩
    have HX6 := hid (HX5.out.trans hx6)
    have HS6 := hid (HS5.out.ext hx6)
    clear hx6
    refine hK.out _ _ ⟨HX6.out.cell q0, HX6.out.cell q1, HX6.out.cell q2, HX6.out.cell q3⟩ (fun hSg1q2 => ?_)
    clear hK K
    try simp only [Act.put, List.setIfInBounds_toArray, List.set_cons_zero, List.set_cons_succ]
    refine wpAnyH_ready (rs := [8]) (by kernel_rfl) (by simp) ?_
    refine AllReadyH.consL rfl (fun K hK => ?_) AllReadyH.nil
    go_simp
    go_at_call 17
    refine (HB.out _ (HX1.out.trans HX6.out)).mono ?_
    rintro e w7 ⟨hx7, A7, c7, rfl, hs7⟩
    have HX7 := hid (HX6.out.trans hx7)
    have HS67 := hid (HS6.out.ext hx7)
    have HS7 := hid hs7
    clear hx7 hs7
    refine hK.out _ _ ⟨HX7.out.cell q0, HX7.out.cell q1, HX7.out.cell q2, HX7.out.cell q3⟩ (fun hSg1q3 => ?_)
    clear hK K
    try simp only [Act.put, List.setIfInBounds_toArray, List.set_cons_zero, List.set_cons_succ]
    refine wpAnyH_ready (rs := [9]) (by kernel_rfl) (by simp) ?_
    refine AllReadyH.consL rfl (fun K hK => ?_) AllReadyH.nil
    go_simp
    go_at_call 15
    refine (HN.out _ A5 c5 A7 c7 HS67.out HS7.out).mono ?_
    rintro e w8 ⟨rfl, hx8⟩
    have HX8 := hid (HX7.out.trans hx8)
    clear hx8
    refine hK.out _ _ ⟨HX8.out.cell q0, HX8.out.cell q1, HX8.out.cell q2, HX8.out.cell q3⟩ (fun hSg1q4 => ?_)
    clear hK K
    try simp only [Act.put, List.setIfInBounds_toArray, List.set_cons_zero, List.set_cons_succ]
    refine wpAnyH_takeL (i := 10) (v := ?g1qv10) rfl (by kernel_rfl) (by kernel_rfl) (by kernel_rfl) (fun _ _ _ h => h) (Or.inl ⟨by rfl, ?g1qy10⟩) (by assumption) ?g1qr10
    case g1qy10 => first | (intro w hSw; (try dsimp only at hSw); go_simp; done) | (intro w hSw; (try dsimp only at hSw); go_simp; with_reducible rfl)
    case' g1qr10 => try simp only [Act.put, List.setIfInBounds_toArray, List.set_cons_zero, List.set_cons_succ]
    refine wpAnyH_ready (rs := [11]) (by kernel_rfl) (by simp) ?_
    refine AllReadyH.consL rfl (fun K hK => ?_) AllReadyH.nil
    go_simp
    go_at_call 10
    refine (example_any _).mono ?_
    rintro e w9 ⟨rfl, hx9⟩
    have HX9 := hid (HX8.out.trans hx9)
    clear hx9
    refine hK.out _ _ ⟨HX9.out.cell q0, HX9.out.cell q1, HX9.out.cell q2, HX9.out.cell q3⟩ (fun hSg1q5 => ?_)
    clear hK K
    try simp only [Act.put, List.setIfInBounds_toArray, List.set_cons_zero, List.set_cons_succ]
    refine wpAnyH_takeL (i := 12) (v := ?g1qv12) rfl (by kernel_rfl) (by kernel_rfl) (by kernel_rfl) (fun _ _ _ h => h) (Or.inl ⟨by rfl, ?g1qy12⟩) (by assumption) ?g1qr12
    case g1qy12 => first | (intro w hSw; (try dsimp only at hSw); go_simp; done) | (intro w hSw; (try dsimp only at hSw); go_simp; with_reducible rfl)
    case' g1qr12 => try simp only [Act.put, List.setIfInBounds_toArray, List.set_cons_zero, List.set_cons_succ]
    refine wpAnyH_takeL (i := 13) (v := ?g1qv13) rfl (by kernel_rfl) (by kernel_rfl) (by kernel_rfl) (fun _ _ _ h => h) (Or.inl ⟨by rfl, ?g1qy13⟩) (by assumption) ?g1qr13
    case g1qy13 => first | (intro w hSw; (try dsimp only at hSw); go_simp; done) | (intro w hSw; (try dsimp only at hSw); go_simp; with_reducible rfl)
    case' g1qr13 => try simp only [Act.put, List.setIfInBounds_toArray, List.set_cons_zero, List.set_cons_succ]
    refine wpAnyH_done (by kernel_rfl) ?_ _
    go_wp2
    go_ret
    exact ⟨rfl, HX1.out.trans HX9.out⟩
end Go.Proofs.Ytolbnhkdpbdhhaa
