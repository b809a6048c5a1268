/- cfg.Leaders. -/
import Derived.Test.YtolbnhkdpbdhhaaCfgD
namespace Go.Proofs.Ytolbnhkdpbdhhaa
open Go.RowKit Go.Deco
set_option linter.unusedSimpArgs false
set_option linter.unusedVariables false

theorem ins_ok {w : World} {A : Option Addr} {n c : Nat} {l : List In} (h : Sl insR w All (.slice A n c) l) : ∀ i ∈ l, InOk i := fun i hi => by
  obtain ⟨k, hk⟩ := List.getElem?_of_mem hi
  obtain ⟨b, off, -, hok, -⟩ := Sl.in_at h hk
  exact hok

set_option maxRecDepth 100000 in
set_option maxHeartbeats 4000000 in
theorem cleaders_any (w : World) (A E U B T Q : Option Addr) (n c ne ce nu cu nb cb nt ct nq cq : Nat) (ins : List In) (entries : List Nat) (tabs : List (List Nat)) (at_ : List Nat) (hi : Sl insR w All (.slice A n c) ins) (he : Sl u32R w All (.slice E ne ce) entries)
    (ht : Sl u32sR w All (.slice T nt ct) tabs) (hq : Sl u32R w All (.slice Q nq cq) at_) (hn : n ≤ 600) (hne : ne ≤ 600) (hnq : nq ≤ 9223372036854775807) (htl : ∀ t ∈ tabs, t.length ≤ 1000) :
    Calls Try.prog 16 #[.agg #[.slice A n c, .slice E ne ce, .slice U nu cu, .slice B nb cb], .slice T nt ct, .slice Q nq cq] w fun e w' => Ext w w' ∧ ∃ A c, e = .returned (.slice A (leadL ins entries tabs at_).length c) ∧ Sl u32R w' All (.slice A (leadL ins entries tabs at_).length c) (leadL ins entries tabs at_) := by
  obtain ⟨W0, hW0⟩ : ∃ W0, w.alloc (.cells #[.slice A n c, .slice E ne ce, .slice U nu cu, .slice B nb cb] 25) = W0 := ⟨_, rfl⟩
  have hE : Ext w W0 := by rw [← hW0]; exact (Ext.refl w).alloc _
  have q0 : W0.cell? ⟨w.heap.size, 0, none⟩ = some (.slice A n c) := by rw [← hW0]; simp [go_sem]
  have q1 : W0.cell? ⟨w.heap.size, 1, none⟩ = some (.slice E ne ce) := by rw [← hW0]; simp [go_sem]
  have q2 : W0.cell? ⟨w.heap.size, 2, none⟩ = some (.slice U nu cu) := by rw [← hW0]; simp [go_sem]
  have q3 : W0.cell? ⟨w.heap.size, 3, none⟩ = some (.slice B nb cb) := by rw [← hW0]; simp [go_sem]
  have hok := ins_ok hi
  have hlen := hi.len
  have HC := hid (fun W (h : Ext w W) => collect_any W A E U B T Q n c ne ce nu cu nb cb nt ct nq cq ins (hi.ext h) (by omega))
  have HL := hid (fun W (h : Ext w W) mb q (hm : MapG (u32K Try.underlying39) W mb q (insF ins)) (hq' : q ≤ ins.length) => lead_any W mb q E T Q ne ce nt ct nq cq entries ins tabs at_ hm (he.ext h) (ht.ext h) (hq.ext h) hnq hok (by omega) htl (by omega))
  have HE := hid hE
  obtain ⟨R, hR⟩ : ∃ R, leadL ins entries tabs at_ = R := ⟨_, rfl⟩
  rw [hR] at HL ⊢
  clear hE hi he ht hq hok hlen hR htl
  go_enter Try.func16, Try.ntmps16
  go_wp2_with fail
  clear hW0
  refine wp_region_held_drew (S := (fun w' => w'.cell? ⟨w.heap.size, 0, none⟩ = some (.slice A n c) ∧ w'.cell? ⟨w.heap.size, 1, none⟩ = some (.slice E ne ce) ∧ w'.cell? ⟨w.heap.size, 2, none⟩ = some (.slice U nu cu) ∧ w'.cell? ⟨w.heap.size, 3, none⟩ = some (.slice B nb cb))) (by kernel_rfl) ⟨q0, q1, q2, q3⟩ (fun hSg1q0 => ?_)
  refine wpAnyH_takeL (i := 0) (v := ?g1qv0) rfl (by kernel_rfl) (by kernel_rfl) (by kernel_rfl) (fun _ _ _ h => h) (Or.inl ⟨by rfl, ?g1qy0⟩) (by assumption) ?g1qr0
  case g1qy0 => first | (intro w hSw; (try dsimp only at hSw); go_simp; done) | (intro w hSw; (try dsimp only at hSw); go_simp; with_reducible rfl)
  case' g1qr0 => try simp only [Act.put, List.setIfInBounds_toArray, List.set_cons_zero, List.set_cons_succ]
  refine wpAnyH_takeL (i := 1) (v := ?g1qv1) rfl (by kernel_rfl) (by kernel_rfl) (by kernel_rfl) (fun _ _ _ h => h) (Or.inl ⟨by rfl, ?g1qy1⟩) (by assumption) ?g1qr1
  case g1qy1 => first | (intro w hSw; (try dsimp only at hSw); go_simp; done) | (intro w hSw; (try dsimp only at hSw); go_simp; with_reducible rfl)
  case' g1qr1 => try simp only [Act.put, List.setIfInBounds_toArray, List.set_cons_zero, List.set_cons_succ]
  refine wpAnyH_takeL (i := 2) (v := ?g1qv2) rfl (by kernel_rfl) (by kernel_rfl) (by kernel_rfl) (fun _ _ _ h => h) (Or.inl ⟨by rfl, ?g1qy2⟩) (by assumption) ?g1qr2
  case g1qy2 => first | (intro w hSw; (try dsimp only at hSw); go_simp; done) | (intro w hSw; (try dsimp only at hSw); go_simp; with_reducible rfl)
  case' g1qr2 => try simp only [Act.put, List.setIfInBounds_toArray, List.set_cons_zero, List.set_cons_succ]
  refine wpAnyH_takeL (i := 4) (v := ?g1qv4) rfl (by kernel_rfl) (by kernel_rfl) (by kernel_rfl) (fun _ _ _ h => h) (Or.inl ⟨by rfl, ?g1qy4⟩) (by assumption) ?g1qr4
  case g1qy4 => first | (intro w hSw; (try dsimp only at hSw); go_simp; done) | (intro w hSw; (try dsimp only at hSw); go_simp; with_reducible rfl)
  case' g1qr4 => try simp only [Act.put, List.setIfInBounds_toArray, List.set_cons_zero, List.set_cons_succ]
  refine wpAnyH_takeL (i := 5) (v := ?g1qv5) rfl (by kernel_rfl) (by kernel_rfl) (by kernel_rfl) (fun _ _ _ h => h) (Or.inl ⟨by rfl, ?g1qy5⟩) (by assumption) ?g1qr5
  case g1qy5 => first | (intro w hSw; (try dsimp only at hSw); go_simp; done) | (intro w hSw; (try dsimp only at hSw); go_simp; with_reducible rfl)
  case' g1qr5 => try simp only [Act.put, List.setIfInBounds_toArray, List.set_cons_zero, List.set_cons_succ]
  refine wpAnyH_ready (rs := [3]) (by kernel_rfl) (by simp) ?_
  refine AllReadyH.consL rfl (fun K hK => ?_) AllReadyH.nil
  go_simp
  go_at_call 27
  refine (HC.out _ HE.out.drew).mono ?_
  rintro e w5 ⟨hx5, mb, mq, rfl, hmb, hm, hmq⟩
  have HX5 := hid ((Ext.refl W0).drew.trans hx5)
  have HMM := hid hm
  have HMQ := hid hmq
  clear hx5 hm hmq
  refine hK.out _ _ ⟨HX5.out.cell q0, HX5.out.cell q1, HX5.out.cell q2, HX5.out.cell q3⟩ (fun hSg1q1 => ?_)
  clear hK K
  try simp only [Act.put, List.setIfInBounds_toArray, List.set_cons_zero, List.set_cons_succ]
  refine wpAnyH_ready (rs := [6]) (by kernel_rfl) (by simp) ?_
  refine AllReadyH.consL rfl (fun K hK => ?_) AllReadyH.nil
  go_simp
  go_at_call 28
  refine (HL.out _ (HE.out.trans HX5.out) mb mq HMM.out HMQ.out).mono ?_
  rintro e w6 ⟨hx6, A6, c6, rfl, hs6⟩
  have HX6 := hid (HX5.out.trans hx6)
  have HS6 := hid hs6
  clear hx6 hs6
  refine hK.out _ _ ⟨HX6.out.cell q0, HX6.out.cell q1, HX6.out.cell q2, HX6.out.cell q3⟩ (fun hSg1q2 => ?_)
  clear hK K
  try simp only [Act.put, List.setIfInBounds_toArray, List.set_cons_zero, List.set_cons_succ]
  refine wpAnyH_takeL (i := 7) (v := ?g1qv7) rfl (by kernel_rfl) (by kernel_rfl) (by kernel_rfl) (fun _ _ _ h => h) (Or.inl ⟨by rfl, ?g1qy7⟩) (by assumption) ?g1qr7
  case g1qy7 => first | (intro w hSw; (try dsimp only at hSw); go_simp; done) | (intro w hSw; (try dsimp only at hSw); go_simp; with_reducible rfl)
  case' g1qr7 => try simp only [Act.put, List.setIfInBounds_toArray, List.set_cons_zero, List.set_cons_succ]
  refine wpAnyH_done (by kernel_rfl) ?_ _
  clear q0 q1 q2 q3
  go_wp2
  go_ret
  exact ⟨HE.out.trans HX6.out, A6, c6, rfl, HS6.out⟩
end Go.Proofs.Ytolbnhkdpbdhhaa
