/- CoverageMinimal: the law's walk. -/
import Derived.Test.YtcddmggefmfkkaaMnlA
namespace Go.Proofs.Ytcddmggefmfkkaa
open Go.RowKit Go.Deco
set_option linter.unusedSimpArgs false
set_option linter.unusedVariables false

theorem ext3 {w w' : World} {p0 p1 p2 : Addr} {u0 u1 u2 : Value} (h : w.cell? p0 = some u0 ∧ w.cell? p1 = some u1 ∧ w.cell? p2 = some u2) (he : Ext w w') : w'.cell? p0 = some u0 ∧ w'.cell? p1 = some u1 ∧ w'.cell? p2 = some u2 :=
  ⟨he.cell h.1, he.cell h.2.1, he.cell h.2.2⟩
theorem minimizeM_yes {P : List Nat → Bool} {l : List Nat} (h : P l = true) : P (minimizeM P l).1 = true ∧ (minimizeM P l).1.length ≤ l.length ∧ (minimizeM P l).2 ≤ 999 ∧ (0 < (minimizeM P l).2 → Stuck P (minimizeM P l).1) := by
  rw [minimizeM, if_pos h]
  exact ⟨minM_P _ _ _ h, (minM_le 1000 l 999).2, (minM_le 1000 l 999).1, minM_stuck 1000 l 999 (by omega)⟩
theorem minimizeM_again {P : List Nat → Bool} {M : List Nat} (hs : Stuck P M) (hp : P M = true) : (minimizeM P M).1 = M := by
  rw [minimizeM, if_pos hp]
  exact minM_again hs 999 999
/-- s[k:], its address spelled out. -/
theorem Sl.from_num {w : World} {S : Nat → Prop} {b off n c k : Nat} {l : List Nat} (h : Sl u32R w S (.slice (some ⟨b, off, none⟩) n c) l) (hk : k ≤ n) :
    Sl u32R w S (.slice (if c = k then some ⟨b, off, none⟩ else some ⟨b, off + k, none⟩) (n - k) (c - k)) (l.drop k) := by
  have hln := h.len
  obtain ⟨hnc, hcm⟩ := h.cap
  by_cases hc : c = k
  · subst hc
    obtain rfl : n = c := by omega
    have e : l.drop n = [] := List.drop_eq_nil_of_le (by omega)
    rw [if_pos rfl, e]
    exact ⟨some ⟨b, off, none⟩, 0, by simp, by simp, by simp [maxLen], by simp, fun h => absurd rfl h⟩
  · rw [if_neg hc]
    have h2 := h.sub (i := k) (j := n) hk (Nat.le_refl _)
    rw [List.take_of_length_le (by rw [List.length_drop]; omega)] at h2
    simpa [numR] using h2

set_option maxRecDepth 100000 in
set_option maxHeartbeats 4000000 in
theorem minimal_any (w : World) (A : Option Addr) (n c : Nat) (l : List Nat) (hl : Sl u32R w All (.slice A n c) l) (q : Rl) :
    Calls Try.prog 7 #[.slice A n c, .agg #[.int .u32 q.least, .int .i64 q.count, .bool q.pair]] w (OneBool w true) := by
  obtain ⟨hnc, hcm⟩ := hl.cap
  have hln := hl.len
  obtain ⟨W0, hW0⟩ : ∃ W0, w.alloc (.cells #[.int .u32 q.least, .int .i64 q.count, .bool q.pair] 43) = W0 := ⟨_, rfl⟩
  have hE0 : Ext w W0 := by rw [← hW0]; exact (Ext.refl w).alloc _
  have HQ0 : Hid (QB w.heap.size q W0) := hid ⟨by rw [← hW0]; simp [go_sem], by rw [← hW0]; simp [go_sem], by rw [← hW0]; simp [go_sem]⟩
  have hs0 : W0.heap.size = w.heap.size + 1 := by rw [← hW0]; simp
  have HE0 := hid hE0
  have HS0 := hid hs0
  by_cases h12 : n > 12
  · have h12' : (n : Int) > 12 := by omega
    clear hl hs0 hE0
    go_enter Try.func7, Try.ntmps7
    go_wp2_with fail
    refine (example_any _).mono ?_
    rintro e wz ⟨rfl, hxz⟩
    have HXZ := hid hxz; clear hxz
    go_wp2
    go_ret
    exact ⟨by simp, HE0.out.trans HXZ.out⟩
  · have h12' : ¬ ((n : Int) > 12) := by omega
    have hqb : w.heap.size < W0.heap.size := by omega
    obtain ⟨qb, hqq⟩ : ∃ qb, w.heap.size = qb := ⟨_, rfl⟩
    obtain ⟨cb, hcc⟩ : ∃ cb, W0.heap.size = cb := ⟨_, rfl⟩
    have HCC := hid hcc
    have HCBL : Hid (CB cb qb q 0 (W0.alloc (.cells #[.int .i64 0] 3))) := hid ⟨by rw [← hcc]; simp [go_sem], by rw [← hcc]; simp [go_sem], by rw [← hqq]; exact HQ0.out.ext ((Ext.refl W0).alloc _)⟩
    have HL0 : Hid (Sl u32R (W0.alloc (.cells #[.int .i64 0] 3)) (fun b => b < qb) (.slice A n c) l) := hid (((hl.mono (S' := fun b => b < qb) fun b _ h => by rw [← hqq]; exact h.lt).ext hE0).ext ((Ext.refl W0).alloc _))
    have HE1 := hid (hE0.alloc (.cells #[.int .i64 0] 3))
    have HLW : Hid (w.heap.size = qb) := hid hqq
    rw [hqq, hcc] at hqb
    obtain ⟨P, hP⟩ : ∃ P, failsB q = P := ⟨_, rfl⟩
    have HP := hid hP
    have HLN := hid hln
    have hn12 : n ≤ 12 := by omega
    obtain ⟨M, hM⟩ : ∃ M, (minimizeM P l).1 = M := ⟨_, rfl⟩
    obtain ⟨left, hleft⟩ : ∃ left, (minimizeM P l).2 = left := ⟨_, rfl⟩
    have HM := hid hM
    have HLE := hid hleft
    clear hl hln hs0 hE0 hP hM hleft h12 hqq hcc
    go_enter Try.func7, Try.ntmps7
    go_wp2_with fail
    clear hW0
    rw [HCC.out, HLW.out]
    obtain ⟨W1, hW1⟩ : ∃ W1, W0.alloc (.cells #[.int .i64 0] 3) = W1 := ⟨_, rfl⟩
    rw [hW1] at HCBL HL0 HE1 ⊢
    clear hW1
    refine (minimize_any (some cb) _ 25 _ P _ (by rw [← HP.out]; exact countFails cb qb q (by omega)) W1 A n c l (HL0.out.mono (fun b hb _ => fun e => by injection e; omega)) (by omega) HCBL.out).mono ?_
    rw [HM.out, HLE.out]
    rintro e w2 ⟨hg2, hj2, A2, c2, rfl, hs2⟩
    have hc0 := hj2.c0
    have hq0 := hj2.qb.q0
    have hq1 := hj2.qb.q1
    have hq2 := hj2.qb.q2
    have HJ2 := hid hj2
    have HS2 := hid hs2
    have HX2 := hid (HE1.out.grown hg2 (fun k hk => by injection hk with hk; rw [← hk, HLW.out]; omega))
    have HL2 := hid (HL0.out.keep (w' := w2) fun b hb hc => hg2.block b hc.lt (fun e => by injection e; omega))
    have hcap2 := hs2.cap
    obtain ⟨hcap21, hcap22⟩ := hcap2
    clear hg2 hj2 hs2 hc0
    go_wp2_with fail
    refine (fails_lit w2 q.least q.count q.pair _ A n c l HL2.out).mono ?_
    rintro e w3 ⟨rfl, hx3⟩
    obtain ⟨r, hr⟩ : ∃ r, P l = r := ⟨_, rfl⟩
    rw [show failsB ⟨q.least, q.count, q.pair⟩ l = r from (congrFun HP.out l).trans hr]
    have HR := hid hr
    have HX3 := hid hx3
    clear hr hx3 hq0 hq1 hq2
    have c0 := HX3.out.cell HJ2.out.c0
    cases r with
    | false =>
      have hmin : minimizeM P l = (l, 999) := by rw [minimizeM, if_neg (by rw [HR.out]; simp)]
      obtain rfl : M = l := by rw [← HM.out, hmin]
      obtain rfl : left = 999 := by rw [← HLE.out, hmin]
      clear hmin
      go_wp2_with fail
      refine (words_any w3 w3 (Ext.refl _) A2 A M.length n c2 c M M (HS2.out.all.ext HX3.out) (HL2.out.all.ext HX3.out)).mono ?_
      rintro e w4 ⟨rfl, hx4⟩
      rw [show decide (M = M) = true by simp]
      have HX4 := hid hx4
      have c0 := HX4.out.cell c0
      clear hx4
      go_wp2_with fail
      refine (example_any _).mono ?_
      rintro e wz ⟨rfl, hxz⟩
      have HXZ := hid hxz; clear hxz
      go_wp2
      go_ret
      exact ⟨by simp, HX2.out.trans (HX3.out.trans (HX4.out.trans HXZ.out))⟩
    | true =>
      obtain ⟨hPM, hlen, hle9, hst⟩ := minimizeM_yes HR.out
      rw [HM.out] at hPM hlen
      rw [HLE.out] at hle9
      rw [HM.out, HLE.out] at hst
      have HST := hid hst
      have HPM := hid hPM
      have hq0 := HX3.out.cell HJ2.out.qb.q0
      have hq1 := HX3.out.cell HJ2.out.qb.q1
      have hq2 := HX3.out.cell HJ2.out.qb.q2
      have hlen2 : ¬ ((M.length : Int) > (n : Int)) := by have := HLN.out; omega
      have hlen3 : decide (n < M.length) = false := by simp; have := HLN.out; omega
      obtain ⟨K, hK⟩ : ∃ K, 1000 - left = K := ⟨_, rfl⟩
      rw [hK] at c0
      have hK1 : ¬ ((K : Int) > 1000) := by omega
      have hK4 : decide (1000 < (K : Int)) = false := by simp; omega
      have hK2 : K ≤ 1000 := by omega
      have hM12 : M.length ≤ 12 := by have := HLN.out; omega
      have HKE := hid hK
      clear hPM hst hlen hK
      go_wp2_with fail
      refine (fails_lit w3 q.least q.count q.pair _ A2 M.length c2 M (HS2.out.ext HX3.out)).mono ?_
      rintro e w4 ⟨rfl, hx4⟩
      rw [show failsB ⟨q.least, q.count, q.pair⟩ M = true from (congrFun HP.out M).trans HPM.out]
      have HX4 := hid (HX3.out.trans hx4)
      have c0 := hx4.cell c0
      clear hx4 hq0 hq1 hq2
      go_wp2_with fail
      have HC0 := hid c0
      clear c0
      obtain ⟨i0, hi, hz0, hz1, hz2⟩ := info_parts info_w32
      have HI := hid hi
      have HZ0 := hid hz0
      have HZ1 := hid hz1
      have HZ2 := hid hz2
      clear hi hz0 hz1 hz2
      go_loopw [7] (fun i wr => ∃ k : Nat, k ≤ M.length ∧ i = .int .i64 k ∧ Hid (Ext w4 wr)) (fun i _ => M.length - (intOf i).toNat)
      case atStart => exact ⟨0, by omega, rfl, hid (Ext.refl _)⟩
      case round =>
        obtain ⟨j, hj, rfl, HXR⟩ := hrel
        have HXA := hid (HX4.out.trans HXR.out)
        have c0 := HXR.out.cell HC0.out
        by_cases hkk : j < M.length ∧ K < 1000
        · obtain ⟨hjM, hK3⟩ := hkk
          have hs := HS2.out.ext HXA.out
          obtain ⟨b1, o1, hA⟩ := hs.at0 (by omega)
          subst hA
          have hs2 := hs.all.take (k := j) (by omega)
          have hs3 := Sl.from_num hs.all (k := j + 1) (by omega)
          obtain ⟨A3, hA3⟩ : ∃ A3, (if c2 = j + 1 then (some ⟨b1, o1, none⟩ : Option Addr) else some ⟨b1, o1 + (j + 1), none⟩) = A3 := ⟨_, rfl⟩
          rw [hA3] at hs3
          have hjc : j ≤ c2 := by omega
          have hKL : (M.take j).length = j := by rw [List.length_take]; omega
          obtain ⟨E, hE⟩ : ∃ E, M.eraseIdx j = E := ⟨_, rfl⟩
          have hEe : M.take j ++ M.drop (j + 1) = E := by rw [← hE, List.eraseIdx_eq_take_drop_succ]
          have hEl : j + (M.length - (j + 1)) = E.length := by rw [← hE, List.length_eraseIdx_of_lt hjM]; omega
          have hPE : failsB ⟨q.least, q.count, q.pair⟩ E = false := by rw [← hE]; exact (congrFun HP.out _).trans (HST.out (by have := HKE.out; omega) j hjM).1
          have hq0 := HXA.out.cell HJ2.out.qb.q0
          have hq1 := HXA.out.cell HJ2.out.qb.q1
          have hq2 := HXA.out.cell HJ2.out.qb.q2
          have hw : IntKind.i64.wrap ((j : Int) + 1) = (j : Int) + 1 := IntWalk.i64_in _ (by omega)
          have hj0 : 0 ≤ (j : Int) + 1 := by omega
          have hj1 : (j : Int) + 1 ≤ (M.length : Int) := by omega
          have hj2 : ((j : Int) + 1).toNat = j + 1 := by omega
          have HKL := hid hKL
          have HEE := hid hEe
          have HEL := hid hEl
          have HPE := hid hPE
          have HSA := hid hs2
          have HSB := hid hs3
          have HQC := hid (And.intro hq0 (And.intro hq1 hq2))
          clear hs hs2 hs3 hKL hE hEe hEl hPE
          go_wp2_with fail
          refine wp_region_held_drew (S := (fun w' => w'.cell? ⟨qb, 0, none⟩ = some (.int .u32 q.least) ∧ w'.cell? ⟨qb, 1, none⟩ = some (.int .i64 q.count) ∧ w'.cell? ⟨qb, 2, none⟩ = some (.bool q.pair))) (by kernel_rfl) ⟨hq0, hq1, hq2⟩ (fun hSR0 => ?_)
          refine wpAnyH_takeL (i := 0) (v := ?Rv0) rfl (by kernel_rfl) (by kernel_rfl) (by kernel_rfl) (fun _ _ _ h => h) (Or.inl ⟨by rfl, ?Ry0⟩) (by assumption) ?Rr0
          case Ry0 => first | (intro w hSw; (try dsimp only at hSw); go_simp; done) | (intro w hSw; (try dsimp only at hSw); go_simp; with_reducible rfl)
          case' Rr0 => try simp only [Act.put, List.setIfInBounds_toArray, List.set_cons_zero, List.set_cons_succ]
          refine wpAnyH_takeL (i := 2) (v := ?Rv2) rfl (by kernel_rfl) (by kernel_rfl) (by kernel_rfl) (fun _ _ _ h => h) (Or.inl ⟨by rfl, ?Ry2⟩) (by assumption) ?Rr2
          case Ry2 => first | (intro w hSw; (try dsimp only at hSw); go_simp; done) | (intro w hSw; (try dsimp only at hSw); go_simp; with_reducible rfl)
          case' Rr2 => try simp only [Act.put, List.setIfInBounds_toArray, List.set_cons_zero, List.set_cons_succ]
          refine wpAnyH_takeL (i := 3) (v := ?Rv3) rfl (by kernel_rfl) (by kernel_rfl) (by kernel_rfl) (fun _ _ _ h => h) (Or.inl ⟨by rfl, ?Ry3⟩) (by assumption) ?Rr3
          case Ry3 => first | (intro w hSw; (try dsimp only at hSw); go_simp; done) | (intro w hSw; (try dsimp only at hSw); go_simp; with_reducible rfl)
          case' Rr3 => try simp only [Act.put, List.setIfInBounds_toArray, List.set_cons_zero, List.set_cons_succ]
          refine wpAnyH_takeL (i := 4) (v := ?Rv4) rfl (by kernel_rfl) (by kernel_rfl) (by kernel_rfl) (fun _ _ _ h => h) (Or.inl ⟨by rfl, ?Ry4⟩) (by assumption) ?Rr4
          case Ry4 => first | (intro w hSw; (try dsimp only at hSw); go_simp; done) | (intro w hSw; (try dsimp only at hSw); go_simp; with_reducible rfl)
          case' Rr4 => try simp only [Act.put, List.setIfInBounds_toArray, List.set_cons_zero, List.set_cons_succ]
          refine wpAnyH_takeL (i := 6) (v := ?Rv6) rfl (by kernel_rfl) (by kernel_rfl) (by kernel_rfl) (fun _ _ _ h => h) (Or.inl ⟨by rfl, ?Ry6⟩) (by assumption) ?Rr6
          case Ry6 => first | (intro w hSw; (try dsimp only at hSw); go_simp; done) | (intro w hSw; (try dsimp only at hSw); go_simp; with_reducible rfl)
          case' Rr6 => try simp only [Act.put, List.setIfInBounds_toArray, List.set_cons_zero, List.set_cons_succ]
          refine wpAnyH_takeL (i := 7) (v := ?Rv7) rfl (by kernel_rfl) (by kernel_rfl) (by kernel_rfl) (fun _ _ _ h => h) (Or.inl ⟨by rfl, ?Ry7⟩) (by assumption) ?Rr7
          case Ry7 => first | (intro w hSw; (try dsimp only at hSw); go_simp; done) | (intro w hSw; (try dsimp only at hSw); go_simp; with_reducible rfl)
          case' Rr7 => try simp only [Act.put, List.setIfInBounds_toArray, List.set_cons_zero, List.set_cons_succ]
          refine wpAnyH_takeL (i := 8) (v := ?Rv8) rfl (by kernel_rfl) (by kernel_rfl) (by kernel_rfl) (fun _ _ _ h => h) (Or.inl ⟨by rfl, ?Ry8⟩) (by assumption) ?Rr8
          case Ry8 => first | (intro w hSw; (try dsimp only at hSw); go_simp; done) | (intro w hSw; (try dsimp only at hSw); go_simp; with_reducible rfl)
          case' Rr8 => try simp only [Act.put, List.setIfInBounds_toArray, List.set_cons_zero, List.set_cons_succ]
          refine wpAnyH_takeL (i := 9) (v := ?Rv9) rfl (by kernel_rfl) (by kernel_rfl) (by kernel_rfl) (fun _ _ _ h => h) (Or.inl ⟨by rfl, ?Ry9⟩) (by assumption) ?Rr9
          case Ry9 => first | (intro w hSw; (try dsimp only at hSw); go_simp; done) | (intro w hSw; (try dsimp only at hSw); go_simp; with_reducible rfl)
          case' Rr9 => try simp only [Act.put, List.setIfInBounds_toArray, List.set_cons_zero, List.set_cons_succ]
          refine wpAnyH_ready (rs := [1]) (by kernel_rfl) (by simp) ?_
          refine AllReadyH.consL rfl (fun K hK => ?_) AllReadyH.nil
          go_simp
          refine hK.out _ _ (ext3 HQC.out ((Ext.refl wr).drew.alloc _)) (fun hSR1 => ?_)
          clear hK K
          try simp only [Act.put, List.setIfInBounds_toArray, List.set_cons_zero, List.set_cons_succ]
          refine wpAnyH_ready (rs := [5]) (by kernel_rfl) (by simp) ?_
          refine AllReadyH.consL rfl (fun K hK => ?_) AllReadyH.nil
          refine step_appS rfl (.tmp 56) (.tmp 59) 23 rfl wr.heap.size 36 i0 _ 1 4 Try.underlying23 HI.out HZ0.out HZ1.out HZ2.out rfl u32R rfl _ [] rfl (OwnS.fresh0 (T := All) wr.drew (Nat.le_refl _)) (some ⟨b1, o1, none⟩) j c2 (M.take j) (fun d => d < wr.heap.size) rfl ((HSA.out.mono (fun b _ h => h.lt)).ext ((Ext.refl wr).drew.alloc _)) (fun _ hb _ => ⟨trivial, own_ne hb⟩) (by simp; omega) (by simp; omega) (by simp) ?_
          intro A4 c4 w5 hown4 hg4
          have HO4 : Hid (OwnS u32R w5 wr.heap.size 36 All (.slice A4 j c4) (M.take j)) := hid (by simpa using hown4)
          have HX5 := hid (((Ext.refl wr).drew.alloc _).grown hg4 (fun k hk => by rw [own_at hk]; simp))
          clear hown4 hg4
          simp only [List.length_nil, Nat.zero_add]
          refine hK.out _ _ (ext3 HQC.out HX5.out) (fun hSR2 => ?_)
          clear hK K
          try simp only [Act.put, List.setIfInBounds_toArray, List.set_cons_zero, List.set_cons_succ]
          refine wpAnyH_ready (rs := [10]) (by kernel_rfl) (by simp) ?_
          refine AllReadyH.consL rfl (fun K hK => ?_) AllReadyH.nil
          refine step_appS rfl (.tmp 60) (.tmp 64) 23 rfl wr.heap.size 36 i0 _ 1 4 Try.underlying23 HI.out HZ0.out HZ1.out HZ2.out rfl u32R rfl (.slice A4 j c4) (M.take j) rfl HO4.out A3 (M.length - (j + 1)) (c2 - (j + 1)) (M.drop (j + 1)) (fun d => d < wr.heap.size) rfl ((HSB.out.mono (fun b _ h => h.lt)).ext HX5.out) (fun d hd _ => ⟨trivial, fun e => by have := HO4.out.block d e.symm; omega⟩) (by have := HKL.out; omega) (by have := HKL.out; omega) (by exact HX5.out.size) ?_
          intro A5 c5 w6 hown5 hg5
          have HX6 := hid (HX5.out.grown hg5 (fun k hk => (HO4.out.block _ hk).1))
          rw [HKL.out, HEL.out, HEE.out] at hown5
          have HO5 := hid hown5
          clear hown5 hg5
          rw [HKL.out, HEL.out]
          refine hK.out _ _ (ext3 HQC.out HX6.out) (fun hSR3 => ?_)
          clear hK K
          try simp only [Act.put, List.setIfInBounds_toArray, List.set_cons_zero, List.set_cons_succ]
          refine wpAnyH_ready (rs := [11]) (by kernel_rfl) (by simp) ?_
          refine AllReadyH.consL rfl (fun K hK => ?_) AllReadyH.nil
          go_simp
          go_at_call 22
          refine (fails_lit w6 q.least q.count q.pair _ A5 E.length c5 E HO5.out.sl).mono ?_
          rintro e w7 ⟨rfl, hx7⟩
          rw [HPE.out]
          have HX7 := hid (HX6.out.trans hx7)
          clear hx7
          refine hK.out _ _ (ext3 HQC.out HX7.out) (fun hSR4 => ?_)
          clear hK K
          try simp only [Act.put, List.setIfInBounds_toArray, List.set_cons_zero, List.set_cons_succ]
          refine wpAnyH_done (by kernel_rfl) ?_ _
          go_wp2
          first
            | go_roundw
            | refine ⟨?rel, ?measure⟩
          case rel =>
            exact ⟨j + 1, by omega, by go_num, hid (HXR.out.trans HX7.out)⟩
          case measure => simp [intOf]; omega
        · have HSM := hid (HS2.out.ext HXA.out)
          have HQ9 := hid (HJ2.out.qb.ext HXA.out)
          by_cases hKK : K < 1000
          · have hj' : ¬ (j < M.length) := by omega
            have hKi : ¬ ((K : Int) ≥ 1000) := by omega
            have hKi2 : (K : Int) < 1000 := by omega
            clear hkk
            go_wp2_with fail
            refine (minimize_any none _ 26 _ P _ (by rw [← HP.out]; exact againFails qb q) wr A2 M.length c2 M (HSM.out.all.mono (fun b _ _ => by simp)) (by omega) HQ9.out).mono ?_
            rintro e w8 ⟨hg8, -, A8, c8, rfl, hs8⟩
            have hx8 : Ext wr w8 := (Ext.refl wr).grown hg8 (fun k h => by cases h)
            rw [minimizeM_again (HST.out (by have := HKE.out; omega)) HPM.out] at hs8 ⊢
            have HS8 := hid hs8.all
            have HX8 := hid hx8
            have c0 := hx8.cell c0
            clear hg8 hs8 hx8
            go_wp2_with fail
            refine (words_any w8 w8 (Ext.refl _) A8 A2 M.length M.length c8 c2 M M HS8.out (HSM.out.all.ext HX8.out)).mono ?_
            rintro e w9 ⟨rfl, hx9⟩
            rw [show decide (M = M) = true by simp]
            have HX9 := hid hx9
            clear hx9
            go_wp2_with fail
            refine (example_any _).mono ?_
            rintro e wz ⟨rfl, hxz⟩
            have HXZ := hid hxz; clear hxz
            go_wp2
            go_ret
            exact ⟨by simp, HX2.out.trans (HXA.out.trans (HX8.out.trans (HX9.out.trans HXZ.out)))⟩
          · have hKi : (K : Int) ≥ 1000 := by omega
            have hKi2 : ¬ ((K : Int) < 1000) := by omega
            by_cases hj' : j < M.length
            all_goals
              clear hkk
              go_wp2_with fail
              refine (minimize_any none _ 26 _ P _ (by rw [← HP.out]; exact againFails qb q) wr A2 M.length c2 M (HSM.out.all.mono (fun b _ _ => by simp)) (by omega) HQ9.out).mono ?_
              rintro e w8 ⟨hg8, -, A8, c8, rfl, hs8⟩
              have hx8 : Ext wr w8 := (Ext.refl wr).grown hg8 (fun k h => by cases h)
              have HX8 := hid hx8
              have c0 := hx8.cell c0
              clear hg8 hs8 hx8
              go_wp2_with fail
              refine (example_any _).mono ?_
              rintro e wz ⟨rfl, hxz⟩
              have HXZ := hid hxz; clear hxz
              go_wp2
              go_ret
              exact ⟨by simp, HX2.out.trans (HXA.out.trans (HX8.out.trans HXZ.out))⟩
end Go.Proofs.Ytcddmggefmfkkaa
