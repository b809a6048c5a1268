/- CoverageCounts: the law's walk. -/
import Derived.Test.YtcddmggefmfkkaaCntA
import Derived.Test.YtcddmggefmfkkaaStA
namespace Go.Proofs.Ytcddmggefmfkkaa
open Go.RowKit Go.Deco
set_option linter.unusedSimpArgs false
set_option linter.unusedVariables false

theorem ext4c {w w' : World} {p0 p1 p2 p3 : Addr} {u0 u1 u2 u3 : Value} (h : w.cell? p0 = some u0 ∧ w.cell? p1 = some u1 ∧ w.cell? p2 = some u2 ∧ w.cell? p3 = some u3) (he : Ext w w') :
    w'.cell? p0 = some u0 ∧ w'.cell? p1 = some u1 ∧ w'.cell? p2 = some u2 ∧ w'.cell? p3 = some u3 :=
  ⟨he.cell h.1, he.cell h.2.1, he.cell h.2.2.1, he.cell h.2.2.2⟩
theorem ext2t {w w' : World} {p0 p1 : Addr} {u0 u1 : Value} (h : w.cell? p0 = some u0 ∧ w.cell? p1 = some u1 ∧ True) (he : Ext w w') : w'.cell? p0 = some u0 ∧ w'.cell? p1 = some u1 ∧ True :=
  ⟨he.cell h.1, he.cell h.2.1, trivial⟩
set_option maxRecDepth 100000 in
set_option maxHeartbeats 8000000 in
theorem countslaw_any (w : World) (A : Option Addr) (n c : Nat) (l : List Nat) (hl : Sl basR w All (.slice A n c) l) (B1 : Option Addr) (k1 d1 : Nat) (s : List Nat) (hs : Sl u32R w All (.slice B1 k1 d1) s) (B2 : Option Addr) (k2 d2 : Nat) (t : List Nat) (ht : Sl u32R w All (.slice B2 k2 d2) t) :
    Calls Try.prog 8 #[.slice A n c, .slice B1 k1 d1, .slice B2 k2 d2] w (OneBool w true) := by
  have hln := hl.len
  have hsn := hs.len
  have htn := ht.len
  obtain ⟨hnc, hcm⟩ := hl.cap
  obtain ⟨hkc1, hkm1⟩ := hs.cap
  obtain ⟨hkc2, hkm2⟩ := ht.cap
  have HL := hid hl
  have HS := hid hs
  have HT := hid ht
  have HLN := hid hln
  have HSN := hid hsn
  have HTN := hid htn
  obtain ⟨i0, hi, hz0, hz1, hz2⟩ := info_parts info_w32
  have HI := hid hi
  have HZ0 := hid hz0
  have HZ1 := hid hz1
  have HZ2 := hid hz2
  obtain ⟨r1, hr1⟩ : ∃ r1, fewB n k1 = r1 := ⟨_, rfl⟩
  obtain ⟨r2, hr2⟩ : ∃ r2, fewB n k2 = r2 := ⟨_, rfl⟩
  have HR1 := hid hr1
  have HR2 := hid hr2
  clear hl hs ht hln hsn htn hi hz0 hz1 hz2 hr1 hr2
  go_enter Try.func8, Try.ntmps8
  go_wp2_with fail
  refine (few_any w A B1 n c k1 d1).mono ?_
  rintro e w' ⟨rfl, rfl⟩
  rw [HR1.out]
  cases r1 with
  | false =>
    go_wp2_with fail
    refine (example_any _).mono ?_
    rintro e wz ⟨rfl, hxz⟩
    have HXZ := hid hxz; clear hxz
    go_wp2
    go_ret
    exact ⟨by simp, HXZ.out⟩
  | true =>
  go_wp2_with fail
  refine (few_any w A B2 n c k2 d2).mono ?_
  rintro e w' ⟨rfl, rfl⟩
  rw [HR2.out]
  cases r2 with
  | false =>
    go_wp2_with fail
    refine (example_any _).mono ?_
    rintro e wz ⟨rfl, hxz⟩
    have HXZ := hid hxz; clear hxz
    go_wp2
    go_ret
    exact ⟨by simp, HXZ.out⟩
  | true =>
  have hf1 := HR1.out
  have hf2 := HR2.out
  unfold fewB at hf1 hf2
  simp only [Bool.and_eq_true, decide_eq_true_eq] at hf1 hf2
  obtain ⟨hn20, hk60⟩ := hf1
  obtain ⟨-, hk60'⟩ := hf2
  go_wp2_with fail
  refine (basics_any w A n c l HL.out (by omega)).mono ?_
  rintro e w1 ⟨hx1, A1, c1, rfl, hs1⟩
  obtain ⟨NL, hNL⟩ : ∃ NL, l.length = NL := ⟨_, rfl⟩
  rw [hNL] at hs1 ⊢
  have hNLn : NL = n := by rw [← hNL]; exact HLN.out.symm
  subst hNLn
  have HX1 := hid hx1
  have HS1 := hid hs1
  clear hx1 hs1 hNL
  go_wp2_with fail
  refine (blocks_any w1 A1 B1 NL c1 k1 d1 l s HS1.out (HS.out.ext HX1.out) (by omega) (by omega)).mono ?_
  rintro e w2 ⟨hx2, A2, c2, A3, c3, rfl, hs2, hs3⟩
  have hrs := ref_same (l := l) (tr := s) (by have := HSN.out; omega)
  rw [hrs.1] at hs2 hs3 ⊢
  rw [hrs.2] at hs3
  obtain ⟨N, hN⟩ : ∃ N, (refB l s).length = N := ⟨_, rfl⟩
  rw [hN] at hs2 hs3 ⊢
  have hN20 : N ≤ 60 := by
    rw [← hN]
    have h1 := asc_len (l.filter fun a => s.contains a)
    have h2 := List.length_filter_le (fun a => s.contains a) l
    have h3 := HLN.out
    unfold refB
    omega
  have hcp2 := hs2.cap
  have hcp3 := hs3.cap
  obtain ⟨hcp21, hcp22⟩ := hcp2
  obtain ⟨hcp31, hcp32⟩ := hcp3
  have HRS := hid hrs
  have HNN := hid hN
  have hE3 : Ext w2 (w2.alloc (.cells #[.slice A2 N c2, .slice A3 N c3] 31)) := (Ext.refl w2).alloc _
  have z0 : (w2.alloc (.cells #[.slice A2 N c2, .slice A3 N c3] 31)).cell? ⟨w2.heap.size, 0, none⟩ = some (.slice A2 N c2) := by simp [go_sem]
  have z1 : (w2.alloc (.cells #[.slice A2 N c2, .slice A3 N c3] 31)).cell? ⟨w2.heap.size, 1, none⟩ = some (.slice A3 N c3) := by simp [go_sem]
  have hx02 := HX1.out.trans hx2
  have HS13 := hid ((HS1.out.ext hx2).ext hE3)
  have HS2 := hid (hs2.ext hE3)
  have HS3 := hid (hs3.ext hE3)
  clear hx2 hs2 hs3 hrs hN
  go_wp2_with fail
  obtain ⟨W3, hW3⟩ : ∃ W3, w2.alloc (.cells #[.slice A2 N c2, .slice A3 N c3] 31) = W3 := ⟨_, rfl⟩
  rw [hW3] at hE3 z0 z1 HS13 HS2 HS3
  try rw [hW3]
  have HX3 := hid (hx02.trans hE3)
  have HZ := hid (And.intro z0 z1)
  obtain ⟨bx, hbx⟩ : ∃ bx, w2.heap.size = bx := ⟨_, rfl⟩
  rw [hbx] at HZ
  try rw [hbx]
  clear hE3 z0 z1 hx02 hW3 hbx
  go_loopw [9, 10] (fun v i wr => ∃ (j m : Nat), j ≤ k1 ∧ m ≤ j ∧ v = .int .i64 m ∧ i = .int .i64 j ∧ Hid (hitN l (s.take j) = m) ∧ Hid (Ext W3 wr)) (fun _ i _ => k1 - (intOf i).toNat)
  case atStart => exact ⟨0, 0, by omega, by omega, rfl, rfl, hid rfl, hid (Ext.refl _)⟩
  case round =>
    obtain ⟨j, m, hj, hm, rfl, rfl, HM, HX⟩ := hrel
    by_cases h1 : j < k1
    · obtain ⟨x, hx⟩ : ∃ x, s[j]? = some x := ⟨_, List.getElem?_eq_getElem (by have := HSN.out; omega)⟩
      have HXJ := hid hx
      have HSR := hid (HS.out.ext (HX3.out.trans HX.out))
      have HLR := hid (HL.out.ext (HX3.out.trans HX.out))
      have HST := hid (hitN_step (l := l) hx)
      obtain ⟨U, hU⟩ : ∃ U, U = wr := ⟨_, rfl⟩
      subst hU
      have hm1 : IntKind.i64.wrap ((m : Int) + 1) = ((m + 1 : Nat) : Int) := (IntWalk.i64_in _ (by omega)).trans (by omega)
      clear hx
      go_wp2_with fail
      go_loopw [9, 11] (fun v i wi => ∃ q : Nat, q ≤ NL ∧ v = .int .i64 m ∧ i = .int .i64 q ∧ Hid (x ∉ l.take q) ∧ Hid (Ext U wi)) (fun _ i _ => NL - (intOf i).toNat)
      case atStart => exact ⟨0, by omega, rfl, rfl, hid (by simp), hid (Ext.refl _)⟩
      case round =>
        obtain ⟨q, hq, rfl, rfl, HQ, HXU⟩ := hrel
        by_cases h2 : q < NL
        · obtain ⟨y, hy⟩ : ∃ y, l[q]? = some y := ⟨_, List.getElem?_eq_getElem (by have := HLN.out; omega)⟩
          obtain ⟨gb, off, e5, A5, n5, d5, B5, m5, d55, C5, q5, f5, rfl, hy32, y0, -, -, -, -⟩ := Sl.bas_at (HLR.out.ext HXU.out) hy
          obtain ⟨sb, soff, rfl, cs, hx32⟩ := (HSR.out.ext HXU.out).num_at HXJ.out
          have HY := hid hy
          clear hy
          by_cases hyx : y = x
          · subst hyx
            have hbb : ((y : Int) == (y : Int)) = true := by simp
            have hmem : l.contains y = true := by simpa using List.mem_of_getElem? HY.out
            have HM2 := hid (show hitN l (s.take (j + 1)) = m + 1 by rw [HST.out, HM.out, hmem, if_pos rfl])
            clear hmem
            go_wp2
            go_quiet (fail)
            go_wp2
            first
              | go_roundw
              | refine ⟨?rel, ?measure⟩
            case rel => exact ⟨j + 1, m + 1, by omega, by omega, by go_num, by go_num, HM2, hid (HX.out.trans (HXU.out.drewN _))⟩
            case measure => simp [intOf]; omega
          · have hbb : ((y : Int) == (x : Int)) = false := by simp; omega
            go_wp2
            go_quiet (fail)
            go_wp2
            first
              | go_roundw
              | refine ⟨?rel, ?measure⟩
            case rel => exact ⟨q + 1, by omega, rfl, by go_num, hid (by
              rw [take_snoc' HY.out, List.mem_append]
              intro h
              rcases h with h | h
              · exact HQ.out h
              · simp at h; exact hyx h.symm), hid (HXU.out.drewN _)⟩
            case measure => simp [intOf]; omega
        · obtain rfl : q = NL := by omega
          have hmem : l.contains x = false := by
            have h := HQ.out
            rw [List.take_of_length_le (by have := HLN.out; omega)] at h
            simpa using h
          have HM2 := hid (show hitN l (s.take (j + 1)) = m by rw [HST.out, HM.out, hmem, if_neg (by simp)]; rfl)
          clear hmem
          go_wp2
          first
            | go_roundw
            | refine ⟨?rel, ?measure⟩
          case rel => exact ⟨j + 1, m, by omega, by omega, rfl, by go_num, HM2, hid (HX.out.trans HXU.out)⟩
          case measure => simp [intOf]; omega
    · obtain rfl : j = k1 := by omega
      have HTOT := hid (show hitN l s = m by
        have h := HM.out
        rw [List.take_of_length_le (by have := HSN.out; omega)] at h
        exact h)
      have z0 := HX.out.cell HZ.out.1
      have z1 := HX.out.cell HZ.out.2
      have hnn : ((N : Int) != (N : Int)) = false := by simp
      obtain ⟨U, hU⟩ : ∃ U, U = wr := ⟨_, rfl⟩
      subst hU
      have hm60 : m ≤ 60 := by omega
      go_wp2_with fail
      go_loop [9, 12] (fun v i => ∃ (q sm y : Nat), q ≤ N ∧ sm + y = m ∧ v = .int .i64 y ∧ i = .int .i64 q ∧ Hid ((((refB l s).take q).map fun a => s.count a).sum = sm)) (fun _ i => N - (intOf i).toNat)
      case atStart => exact ⟨0, 0, m, by omega, by omega, rfl, rfl, hid rfl⟩
      case round =>
        obtain ⟨q, sm, y, hq, hsm, rfl, rfl, HSUM⟩ := hrel
        by_cases hqN : q < N
        · obtain ⟨a, ha⟩ : ∃ a, (refB l s)[q]? = some a := ⟨_, List.getElem?_eq_getElem (by have := HNN.out; omega)⟩
          have hh : (refH l s)[q]? = some ((s.count a : Nat) : Int) := by rw [refH, List.getElem?_map, ha]; rfl
          have hpos := refB_pos (List.mem_of_getElem? ha)
          have hst := sum_take (f := fun a => s.count a) ha
          have hle := sum_take_le (refB l s) (fun a => s.count a) (q + 1)
          rw [hits_sum, HTOT.out] at hle
          obtain ⟨hb, off, rfl, ch, -, -⟩ := Sl.i64_at (HS3.out.ext HX.out) hh
          obtain ⟨h, hhh⟩ : ∃ h, s.count a = h := ⟨_, rfl⟩
          rw [hhh] at ch hpos hst
          rw [HSUM.out] at hst
          rw [hst] at hle
          obtain ⟨y', rfl⟩ : ∃ y', y = y' + h := ⟨y - h, by omega⟩
          have HST := hid hst
          have HSM := hid (show sm + h + y' = m by omega)
          have hlt : ¬ ((h : Int) < 1) := by omega
          obtain ⟨yy, hyy⟩ : ∃ yy : Int, ((y' + h : Nat) : Int) = yy := ⟨_, rfl⟩
          have hw : IntKind.i64.wrap (yy - (h : Int)) = (y' : Int) := (IntWalk.i64_in _ (by omega)).trans (by omega)
          rw [hyy]
          clear hh ha hst hhh hyy hsm hle hpos
          go_wp2
          first
            | go_round
            | refine ⟨?rel, ?measure⟩
          case rel => exact ⟨q + 1, sm + h, y', by omega, HSM.out, rfl, by go_num, HST⟩
          case measure => simp [intOf]; omega
        · obtain rfl : q = N := by omega
          have hsm2 : sm = m := by
            have h := HSUM.out
            rw [List.take_of_length_le (by have := HNN.out; omega), hits_sum, HTOT.out] at h
            exact h.symm
          obtain rfl : y = 0 := by omega
          clear hnn hsm
          go_wp2_with fail
          refine (missed_any U A1 A2 A3 NL c1 q c2 q c3 l (refB l s) (HS13.out.ext HX.out) (HS2.out.ext HX.out) (by omega) (by omega)).mono ?_
          rintro e w5 ⟨hx5, A5, c5, rfl, hs5⟩
          have HX5 := hid (HX.out.trans hx5)
          have HS5 := hid hs5
          obtain ⟨N5, hN5⟩ : ∃ N5, (missedOf l (refB l s)).length = N5 := ⟨_, rfl⟩
          rw [hN5] at HS5 ⊢
          clear hx5 hs5 hN5 z0 z1
          go_wp2_with fail
          go_loopw [14] (fun i wr => ∃ p : Nat, p ≤ NL ∧ i = .int .i64 p ∧ Hid (Ext w5 wr)) (fun i _ => NL - (intOf i).toNat)
          case atStart => exact ⟨0, by omega, rfl, hid (Ext.refl _)⟩
          case round =>
            obtain ⟨p, hp, rfl, HXP⟩ := hrel
            have HXA := hid (HX5.out.trans HXP.out)
            have z0 := HXA.out.cell HZ.out.1
            have z1 := HXA.out.cell HZ.out.2
            by_cases hpn : p < NL
            · obtain ⟨x, hx⟩ : ∃ x, l[p]? = some x := ⟨_, List.getElem?_eq_getElem (by have := HLN.out; omega)⟩
              obtain ⟨gb, off, e5, A6, n6, d6, B6, m6, d66, C6, q6, f6, rfl, hx32, y0, -, -, -, -⟩ := Sl.bas_at (HL.out.ext (HX3.out.trans HXA.out)) hx
              have hmi := missed_iff (bl := refB l s) (List.mem_of_getElem? hx)
              obtain ⟨r, hr⟩ : ∃ r, (refB l s).contains x = r := ⟨_, rfl⟩
              rw [hr] at hmi
              have HR := hid hr
              have HMI := hid hmi
              clear hx hr hmi
              have HC5 := hid (And.intro z0 (And.intro y0 trivial))
              go_wp2_with fail
              have HXH0 := hid ((Ext.refl wr).drew)
              refine wp_region_held_drew (S := (fun w' => w'.cell? ⟨bx, 0, none⟩ = some (.slice A2 q c2) ∧ w'.cell? ⟨gb, off + p * 5, none⟩ = some (.int .u32 x) ∧ True)) (by kernel_rfl) ⟨z0, y0, trivial⟩ (fun hSH0 => ?_)
              refine wpAnyH_takeL (i := 0) (v := ?Hv0x1) rfl (by kernel_rfl) (by kernel_rfl) (by kernel_rfl) (fun _ _ _ h => h) (Or.inl ⟨by rfl, ?Hy0x1⟩) (by assumption) ?Hr0x1
              case Hy0x1 => first | (intro w hSw; (try dsimp only at hSw); go_simp; done) | (intro w hSw; (try dsimp only at hSw); go_simp; with_reducible rfl)
              case' Hr0x1 => try simp only [Act.put, List.setIfInBounds_toArray, List.set_cons_zero, List.set_cons_succ]
              refine wpAnyH_takeL (i := 1) (v := ?Hv1x2) rfl (by kernel_rfl) (by kernel_rfl) (by kernel_rfl) (fun _ _ _ h => h) (Or.inl ⟨by rfl, ?Hy1x2⟩) (by assumption) ?Hr1x2
              case Hy1x2 => first | (intro w hSw; (try dsimp only at hSw); go_simp; done) | (intro w hSw; (try dsimp only at hSw); go_simp; with_reducible rfl)
              case' Hr1x2 => try simp only [Act.put, List.setIfInBounds_toArray, List.set_cons_zero, List.set_cons_succ]
              refine wpAnyH_takeL (i := 2) (v := ?Hv2x3) rfl (by kernel_rfl) (by kernel_rfl) (by kernel_rfl) (fun _ _ _ h => h) (Or.inl ⟨by rfl, ?Hy2x3⟩) (by assumption) ?Hr2x3
              case Hy2x3 => first | (intro w hSw; (try dsimp only at hSw); go_simp; done) | (intro w hSw; (try dsimp only at hSw); go_simp; with_reducible rfl)
              case' Hr2x3 => try simp only [Act.put, List.setIfInBounds_toArray, List.set_cons_zero, List.set_cons_succ]
              refine wpAnyH_takeL (i := 3) (v := ?Hv3x4) rfl (by kernel_rfl) (by kernel_rfl) (by kernel_rfl) (fun _ _ _ h => h) (Or.inl ⟨by rfl, ?Hy3x4⟩) (by assumption) ?Hr3x4
              case Hy3x4 => first | (intro w hSw; (try dsimp only at hSw); go_simp; done) | (intro w hSw; (try dsimp only at hSw); go_simp; with_reducible rfl)
              case' Hr3x4 => try simp only [Act.put, List.setIfInBounds_toArray, List.set_cons_zero, List.set_cons_succ]
              refine wpAnyH_takeL (i := 4) (v := ?Hv4x5) rfl (by kernel_rfl) (by kernel_rfl) (by kernel_rfl) (fun _ _ _ h => h) (Or.inl ⟨by rfl, ?Hy4x5⟩) (by assumption) ?Hr4x5
              case Hy4x5 => first | (intro w hSw; (try dsimp only at hSw); go_simp; done) | (intro w hSw; (try dsimp only at hSw); go_simp; with_reducible rfl)
              case' Hr4x5 => try simp only [Act.put, List.setIfInBounds_toArray, List.set_cons_zero, List.set_cons_succ]
              refine wpAnyH_takeL (i := 5) (v := ?Hv5x6) rfl (by kernel_rfl) (by kernel_rfl) (by kernel_rfl) (fun _ _ _ h => h) (Or.inl ⟨by rfl, ?Hy5x6⟩) (by assumption) ?Hr5x6
              case Hy5x6 => first | (intro w hSw; (try dsimp only at hSw); go_simp; done) | (intro w hSw; (try dsimp only at hSw); go_simp; with_reducible rfl)
              case' Hr5x6 => try simp only [Act.put, List.setIfInBounds_toArray, List.set_cons_zero, List.set_cons_succ]
              refine wpAnyH_takeL (i := 6) (v := ?Hv6x7) rfl (by kernel_rfl) (by kernel_rfl) (by kernel_rfl) (fun _ _ _ h => h) (Or.inl ⟨by rfl, ?Hy6x7⟩) (by assumption) ?Hr6x7
              case Hy6x7 => first | (intro w hSw; (try dsimp only at hSw); go_simp; done) | (intro w hSw; (try dsimp only at hSw); go_simp; with_reducible rfl)
              case' Hr6x7 => try simp only [Act.put, List.setIfInBounds_toArray, List.set_cons_zero, List.set_cons_succ]
              refine wpAnyH_takeL (i := 8) (v := ?Hv8x8) rfl (by kernel_rfl) (by kernel_rfl) (by kernel_rfl) (fun _ _ _ h => h) (Or.inl ⟨by rfl, ?Hy8x8⟩) (by assumption) ?Hr8x8
              case Hy8x8 => first | (intro w hSw; (try dsimp only at hSw); go_simp; done) | (intro w hSw; (try dsimp only at hSw); go_simp; with_reducible rfl)
              case' Hr8x8 => try simp only [Act.put, List.setIfInBounds_toArray, List.set_cons_zero, List.set_cons_succ]
              refine wpAnyH_takeL (i := 9) (v := ?Hv9x9) rfl (by kernel_rfl) (by kernel_rfl) (by kernel_rfl) (fun _ _ _ h => h) (Or.inl ⟨by rfl, ?Hy9x9⟩) (by assumption) ?Hr9x9
              case Hy9x9 => first | (intro w hSw; (try dsimp only at hSw); go_simp; done) | (intro w hSw; (try dsimp only at hSw); go_simp; with_reducible rfl)
              case' Hr9x9 => try simp only [Act.put, List.setIfInBounds_toArray, List.set_cons_zero, List.set_cons_succ]
              refine wpAnyH_takeL (i := 10) (v := ?Hv10x10) rfl (by kernel_rfl) (by kernel_rfl) (by kernel_rfl) (fun _ _ _ h => h) (Or.inl ⟨by rfl, ?Hy10x10⟩) (by assumption) ?Hr10x10
              case Hy10x10 => first | (intro w hSw; (try dsimp only at hSw); go_simp; done) | (intro w hSw; (try dsimp only at hSw); go_simp; with_reducible rfl)
              case' Hr10x10 => try simp only [Act.put, List.setIfInBounds_toArray, List.set_cons_zero, List.set_cons_succ]
              refine wpAnyH_takeL (i := 11) (v := ?Hv11x11) rfl (by kernel_rfl) (by kernel_rfl) (by kernel_rfl) (fun _ _ _ h => h) (Or.inl ⟨by rfl, ?Hy11x11⟩) (by assumption) ?Hr11x11
              case Hy11x11 => first | (intro w hSw; (try dsimp only at hSw); go_simp; done) | (intro w hSw; (try dsimp only at hSw); go_simp; with_reducible rfl)
              case' Hr11x11 => try simp only [Act.put, List.setIfInBounds_toArray, List.set_cons_zero, List.set_cons_succ]
              refine wpAnyH_takeL (i := 12) (v := ?Hv12x12) rfl (by kernel_rfl) (by kernel_rfl) (by kernel_rfl) (fun _ _ _ h => h) (Or.inl ⟨by rfl, ?Hy12x12⟩) (by assumption) ?Hr12x12
              case Hy12x12 => first | (intro w hSw; (try dsimp only at hSw); go_simp; done) | (intro w hSw; (try dsimp only at hSw); go_simp; with_reducible rfl)
              case' Hr12x12 => try simp only [Act.put, List.setIfInBounds_toArray, List.set_cons_zero, List.set_cons_succ]
              refine wpAnyH_takeL (i := 13) (v := ?Hv13x13) rfl (by kernel_rfl) (by kernel_rfl) (by kernel_rfl) (fun _ _ _ h => h) (Or.inl ⟨by rfl, ?Hy13x13⟩) (by assumption) ?Hr13x13
              case Hy13x13 => first | (intro w hSw; (try dsimp only at hSw); go_simp; done) | (intro w hSw; (try dsimp only at hSw); go_simp; with_reducible rfl)
              case' Hr13x13 => try simp only [Act.put, List.setIfInBounds_toArray, List.set_cons_zero, List.set_cons_succ]
              refine wpAnyH_ready (rs := [7]) (by kernel_rfl) (by simp) ?_
              refine (AllReadyH.consL rfl (fun K hK => ?Hb7x14) AllReadyH.nil)
              case' Hb7x14 =>
                go_simp
                go_at_call 28
                refine (has_any _ All A2 q c2 (refB l s) ((HS2.out.ext HXA.out).ext HXH0.out) x).mono ?_
                rintro e w6 ⟨rfl, hw6⟩
                have HXH1 := HXH0
                rw [hw6] at HXH1
                rw [HR.out]
                clear hw6
                refine hK.out _ _ (ext2t HC5.out HXH1.out) (fun hSH1 => ?_)
                clear hK K
                try simp only [Act.put, List.setIfInBounds_toArray, List.set_cons_zero, List.set_cons_succ]
                refine wpAnyH_ready (rs := [14]) (by kernel_rfl) (by simp) ?_
                refine (AllReadyH.consL rfl (fun K hK => ?Hb14x15) AllReadyH.nil)
                case' Hb14x15 =>
                  go_simp
                  go_at_call 28
                  refine (has_any _ All A5 N5 c5 (missedOf l (refB l s)) ((HS5.out.ext HXP.out).ext HXH1.out) x).mono ?_
                  rintro e w7 ⟨rfl, hw7⟩
                  have HXH2 := HXH1
                  rw [hw7] at HXH2
                  rw [HMI.out]
                  clear hw7
                  refine hK.out _ _ (ext2t HC5.out HXH2.out) (fun hSH2 => ?_)
                  clear hK K
                  try simp only [Act.put, List.setIfInBounds_toArray, List.set_cons_zero, List.set_cons_succ]
                  refine wpAnyH_takeL (i := 15) (v := ?Hv15x16) rfl (by kernel_rfl) (by kernel_rfl) (by kernel_rfl) (fun _ _ _ h => h) (Or.inl ⟨by rfl, ?Hy15x16⟩) (by assumption) ?Hr15x16
                  case Hy15x16 => first | (intro w hSw; (try dsimp only at hSw); go_simp; done) | (intro w hSw; (try dsimp only at hSw); go_simp; with_reducible rfl)
                  case' Hr15x16 => try simp only [Act.put, List.setIfInBounds_toArray, List.set_cons_zero, List.set_cons_succ]
                  refine wpAnyH_done (by kernel_rfl) ?_ _
                  cases r
                  all_goals
                    go_wp2
                    first
                      | go_roundw
                      | refine ⟨?rel, ?measure⟩
                    case rel => exact ⟨p + 1, by omega, by go_num, hid (HXP.out.trans HXH2.out)⟩
                    case measure => simp [intOf]; omega
            · obtain rfl : p = NL := by omega
              have HSW := hid ((HS.out.ext (HX3.out.trans HXA.out)).mono (S' := fun b => b < wr.heap.size) (fun b _ h => h.lt))
              have HTW := hid ((HT.out.ext (HX3.out.trans HXA.out)).mono (S' := fun b => b < wr.heap.size) (fun b _ h => h.lt))
              have hslen : s.length ≤ 60 := by have := HSN.out; omega
              clear z0 z1
              go_wp2_with (first
                | (at_builtin; refine wpList_appS rfl (.tmp 109) (.tmp 110) 23 rfl wr.heap.size 36 i0 _ 1 4 Try.underlying23 HI.out HZ0.out HZ1.out HZ2.out rfl u32R rfl _ [] rfl (OwnS.fresh0 (T := All) wr (Nat.le_refl _)) B1 j d1 s (fun b => b < wr.heap.size) rfl (HSW.out.ext ((Ext.refl wr).alloc _)) (fun _ hb _ => ⟨trivial, own_ne hb⟩) (by simp; omega) (by simp; omega) (by simp) ?_; intro A7 c7 w7 hown7 hg7 hloc; have HO7 : Hid (OwnS u32R w7 wr.heap.size 36 All (.slice A7 j c7) s) := hid (by simpa using hown7); have HX7 := hid (((Ext.refl wr).alloc _).grown hg7 (fun k hk => by rw [own_at hk]; simp)); clear hown7 hg7 hloc; simp only [List.length_nil, Nat.zero_add])
                | (at_builtin; refine wpList_appS rfl (.tmp 111) (.tmp 112) 23 rfl wr.heap.size 36 i0 _ 1 4 Try.underlying23 HI.out HZ0.out HZ1.out HZ2.out rfl u32R rfl (.slice A7 j c7) s rfl HO7.out B2 k2 d2 t (fun b => b < wr.heap.size) rfl (HTW.out.ext HX7.out) (fun d hd _ => ⟨trivial, fun e => by have := HO7.out.block d e.symm; omega⟩) (by omega) (by omega) (by exact HX7.out.size) ?_; intro A8 c8 w8 hown8 hg8 hloc; have HO8 := hid hown8; have HX8 := hid (HX7.out.grown hg8 (fun k hk => (HO7.out.block _ hk).1)); clear hown8 hg8 hloc)
                | fail)
              have HX8A := hid (HXA.out.trans HX8.out)
              refine (blocks_any _ A1 A8 p c1 (s.length + k2) c8 l (s ++ t) (HS13.out.ext HX8A.out) HO8.out.sl (by omega) (by omega)).mono ?_
              rintro e w9 ⟨hx9, A9, c9, A10, c10, rfl, hs9, hs10⟩
              have hbo := both_same l s t
              rw [HRS.out.1, HRS.out.2] at hbo
              obtain ⟨CB, hCB⟩ : ∃ CB, covB (traced l (s ++ t)) = CB := ⟨_, rfl⟩
              obtain ⟨CH, hCH⟩ : ∃ CH, covH (traced l (s ++ t)) = CH := ⟨_, rfl⟩
              rw [hCB] at hs9 hs10 hbo ⊢
              rw [hCH] at hs10 hbo
              obtain ⟨N9, hN9⟩ : ∃ N9, CB.length = N9 := ⟨_, rfl⟩
              rw [hN9] at hs9 hs10 ⊢
              have HN9 := hid hN9
              have HBO := hid hbo
              have hE10 : Ext w9 (w9.alloc (.cells #[.slice A9 N9 c9, .slice A10 N9 c10] 31)) := (Ext.refl w9).alloc _
              have y0 : (w9.alloc (.cells #[.slice A9 N9 c9, .slice A10 N9 c10] 31)).cell? ⟨w9.heap.size, 0, none⟩ = some (.slice A9 N9 c9) := by simp [go_sem]
              have y1 : (w9.alloc (.cells #[.slice A9 N9 c9, .slice A10 N9 c10] 31)).cell? ⟨w9.heap.size, 1, none⟩ = some (.slice A10 N9 c10) := by simp [go_sem]
              have HXW := hid ((HX8A.out.trans hx9).trans hE10)
              have HS9 := hid (hs9.ext hE10)
              have HS10 := hid (hs10.ext hE10)
              have HZY := hid (And.intro y0 y1)
              clear hx9 hs9 hs10 hN9 hbo hCB hCH hE10 y0 y1
              go_wp2_with fail
              obtain ⟨W10, hW10⟩ : ∃ W10, w9.alloc (.cells #[.slice A9 N9 c9, .slice A10 N9 c10] 31) = W10 := ⟨_, rfl⟩
              rw [hW10] at HXW HS9 HS10 HZY
              try rw [hW10]
              have HST10 := hid (HT.out.ext (HX3.out.trans HXW.out))
              have HS210 := hid (HS2.out.ext HXW.out)
              have HS310 := hid (HS3.out.ext HXW.out)
              have HS1310 := hid (HS13.out.ext HXW.out)
              have z0 := HXW.out.cell HZ.out.1
              have z1 := HXW.out.cell HZ.out.2
              have y0 := HZY.out.1
              have y1 := HZY.out.2
              have HC4 := hid (And.intro z0 (And.intro z1 (And.intro y0 y1)))
              have HQN := hid (show q ≤ 200 by omega)
              clear hW10
              have HXG0 := hid ((Ext.refl W10).drew)
              refine wp_region_held_drew (S := (fun w' => w'.cell? ⟨bx, 0, none⟩ = some (.slice A2 q c2) ∧ w'.cell? ⟨bx, 1, none⟩ = some (.slice A3 q c3) ∧ w'.cell? ⟨w9.heap.size, 0, none⟩ = some (.slice A9 N9 c9) ∧ w'.cell? ⟨w9.heap.size, 1, none⟩ = some (.slice A10 N9 c10))) (by kernel_rfl) ⟨z0, z1, y0, y1⟩ (fun hSG0 => ?_)
              refine wpAnyH_takeL (i := 0) (v := ?Gv0x1) rfl (by kernel_rfl) (by kernel_rfl) (by kernel_rfl) (fun _ _ _ h => h) (Or.inl ⟨by rfl, ?Gy0x1⟩) (by assumption) ?Gr0x1
              case Gy0x1 => first | (intro w hSw; (try dsimp only at hSw); go_simp; done) | (intro w hSw; (try dsimp only at hSw); go_simp; with_reducible rfl)
              case' Gr0x1 => try simp only [Act.put, List.setIfInBounds_toArray, List.set_cons_zero, List.set_cons_succ]
              refine wpAnyH_takeL (i := 1) (v := ?Gv1x2) rfl (by kernel_rfl) (by kernel_rfl) (by kernel_rfl) (fun _ _ _ h => h) (Or.inl ⟨by rfl, ?Gy1x2⟩) (by assumption) ?Gr1x2
              case Gy1x2 => first | (intro w hSw; (try dsimp only at hSw); go_simp; done) | (intro w hSw; (try dsimp only at hSw); go_simp; with_reducible rfl)
              case' Gr1x2 => try simp only [Act.put, List.setIfInBounds_toArray, List.set_cons_zero, List.set_cons_succ]
              refine wpAnyH_takeL (i := 2) (v := ?Gv2x3) rfl (by kernel_rfl) (by kernel_rfl) (by kernel_rfl) (fun _ _ _ h => h) (Or.inl ⟨by rfl, ?Gy2x3⟩) (by assumption) ?Gr2x3
              case Gy2x3 => first | (intro w hSw; (try dsimp only at hSw); go_simp; done) | (intro w hSw; (try dsimp only at hSw); go_simp; with_reducible rfl)
              case' Gr2x3 => try simp only [Act.put, List.setIfInBounds_toArray, List.set_cons_zero, List.set_cons_succ]
              refine wpAnyH_takeL (i := 3) (v := ?Gv3x4) rfl (by kernel_rfl) (by kernel_rfl) (by kernel_rfl) (fun _ _ _ h => h) (Or.inl ⟨by rfl, ?Gy3x4⟩) (by assumption) ?Gr3x4
              case Gy3x4 => first | (intro w hSw; (try dsimp only at hSw); go_simp; done) | (intro w hSw; (try dsimp only at hSw); go_simp; with_reducible rfl)
              case' Gr3x4 => try simp only [Act.put, List.setIfInBounds_toArray, List.set_cons_zero, List.set_cons_succ]
              refine wpAnyH_takeL (i := 4) (v := ?Gv4x5) rfl (by kernel_rfl) (by kernel_rfl) (by kernel_rfl) (fun _ _ _ h => h) (Or.inl ⟨by rfl, ?Gy4x5⟩) (by assumption) ?Gr4x5
              case Gy4x5 => first | (intro w hSw; (try dsimp only at hSw); go_simp; done) | (intro w hSw; (try dsimp only at hSw); go_simp; with_reducible rfl)
              case' Gr4x5 => try simp only [Act.put, List.setIfInBounds_toArray, List.set_cons_zero, List.set_cons_succ]
              refine wpAnyH_takeL (i := 5) (v := ?Gv5x6) rfl (by kernel_rfl) (by kernel_rfl) (by kernel_rfl) (fun _ _ _ h => h) (Or.inl ⟨by rfl, ?Gy5x6⟩) (by assumption) ?Gr5x6
              case Gy5x6 => first | (intro w hSw; (try dsimp only at hSw); go_simp; done) | (intro w hSw; (try dsimp only at hSw); go_simp; with_reducible rfl)
              case' Gr5x6 => try simp only [Act.put, List.setIfInBounds_toArray, List.set_cons_zero, List.set_cons_succ]
              refine wpAnyH_takeL (i := 9) (v := ?Gv9x7) rfl (by kernel_rfl) (by kernel_rfl) (by kernel_rfl) (fun _ _ _ h => h) (Or.inl ⟨by rfl, ?Gy9x7⟩) (by assumption) ?Gr9x7
              case Gy9x7 => first | (intro w hSw; (try dsimp only at hSw); go_simp; done) | (intro w hSw; (try dsimp only at hSw); go_simp; with_reducible rfl)
              case' Gr9x7 => try simp only [Act.put, List.setIfInBounds_toArray, List.set_cons_zero, List.set_cons_succ]
              refine wpAnyH_ready (rs := [6]) (by kernel_rfl) (by simp) ?_
              refine (AllReadyH.consL rfl (fun K hK => ?Gb6x8) AllReadyH.nil)
              case' Gb6x8 =>
                go_simp
                go_at_call 14
                refine (blocks_any _ A1 B2 p c1 k2 d2 l t (HS1310.out.ext HXG0.out) (HST10.out.ext HXG0.out) (by omega) (by omega)).mono ?_
                rintro e w11 ⟨hEG1, A11, c11, A12, c12, rfl, hs11, hs12⟩
                have HS11 := hid hs11
                have HS12 := hid hs12
                clear hs11 hs12
                have HXG1 := hid (HXG0.out.trans hEG1)
                clear hEG1
                refine hK.out _ _ (ext4c HC4.out HXG1.out) (fun hSG1 => ?_)
                clear hK K
                try simp only [Act.put, List.setIfInBounds_toArray, List.set_cons_zero, List.set_cons_succ]
                refine wpAnyH_ready (rs := [7]) (by kernel_rfl) (by simp) ?_
                refine (AllReadyH.consL rfl (fun K hK => ?Gb7x9) AllReadyH.nil)
                case' Gb7x9 =>
                  go_simp
                  go_at_call 29
                  refine (merge_any _ A2 A3 A11 A12 q c2 q c3 _ c11 _ c12 (refB l s) (covB (traced l t)) (refH l s) (covH (traced l t)) (HS210.out.ext HXG1.out) (HS310.out.ext HXG1.out) HS11.out HS12.out (by omega) (by have h := covB_len (traced l t); have h2 := List.length_filter_le (fun a => l.contains a) t; have h3 := HTN.out; simp only [traced, ones, List.length_map] at h ⊢; omega)).mono ?_
                  rintro e w14 ⟨hEG2, A14, c14, A15, c15, rfl, hs14, hs15⟩
                  rw [HBO.out.1, HN9.out] at hs14 hs15
                  rw [HBO.out.2] at hs15
                  rw [HBO.out.1, HN9.out]
                  have HS14 := hid hs14
                  have HS15 := hid hs15
                  clear hs14 hs15
                  have HXG2 := hid (HXG1.out.trans hEG2)
                  have HS11 := hid (HS11.out.ext hEG2)
                  have HS12 := hid (HS12.out.ext hEG2)
                  clear hEG2
                  refine hK.out _ _ (ext4c HC4.out HXG2.out) (fun hSG2 => ?_)
                  clear hK K
                  try simp only [Act.put, List.setIfInBounds_toArray, List.set_cons_zero, List.set_cons_succ]
                  refine wpAnyH_ready (rs := [8]) (by kernel_rfl) (by simp) ?_
                  refine (AllReadyH.consL rfl (fun K hK => ?Gb8x10) AllReadyH.nil)
                  case' Gb8x10 =>
                    go_simp
                    go_at_call 13
                    refine (toRef_any _ A14 A15 N9 c14 N9 c15).mono ?_
                    rintro e w16 ⟨rfl, hEG3⟩
                    have HXG3 := hid (HXG2.out.trans hEG3)
                    have HS11 := hid (HS11.out.ext hEG3)
                    have HS12 := hid (HS12.out.ext hEG3)
                    have HS14 := hid (HS14.out.ext hEG3)
                    have HS15 := hid (HS15.out.ext hEG3)
                    clear hEG3
                    refine hK.out _ _ (ext4c HC4.out HXG3.out) (fun hSG3 => ?_)
                    clear hK K
                    try simp only [Act.put, List.setIfInBounds_toArray, List.set_cons_zero, List.set_cons_succ]
                    refine wpAnyH_ready (rs := [10]) (by kernel_rfl) (by simp) ?_
                    refine (AllReadyH.consL rfl (fun K hK => ?Gb10x11) AllReadyH.nil)
                    case' Gb10x11 =>
                      go_simp
                      go_at_call 13
                      refine (toRef_any _ A9 A10 N9 c9 N9 c10).mono ?_
                      rintro e w17 ⟨rfl, hEG4⟩
                      have HXG4 := hid (HXG3.out.trans hEG4)
                      have HS11 := hid (HS11.out.ext hEG4)
                      have HS12 := hid (HS12.out.ext hEG4)
                      have HS14 := hid (HS14.out.ext hEG4)
                      have HS15 := hid (HS15.out.ext hEG4)
                      clear hEG4
                      refine hK.out _ _ (ext4c HC4.out HXG4.out) (fun hSG4 => ?_)
                      clear hK K
                      try simp only [Act.put, List.setIfInBounds_toArray, List.set_cons_zero, List.set_cons_succ]
                      refine wpAnyH_ready (rs := [11]) (by kernel_rfl) (by simp) ?_
                      refine (AllReadyH.consL rfl (fun K hK => ?Gb11x12) AllReadyH.nil)
                      case' Gb11x12 =>
                        go_simp
                        go_at_call 12
                        refine (same_any _ A14 A9 A15 A10 N9 c14 c9 N9 c15 c10 CB CH HS14.out (HS9.out.ext HXG4.out) HS15.out (HS10.out.ext HXG4.out)).mono ?_
                        rintro e w18 ⟨rfl, hEG5⟩
                        have HXG5 := hid (HXG4.out.trans hEG5)
                        have HS11 := hid (HS11.out.ext hEG5)
                        have HS12 := hid (HS12.out.ext hEG5)
                        have HS14 := hid (HS14.out.ext hEG5)
                        have HS15 := hid (HS15.out.ext hEG5)
                        clear hEG5
                        refine hK.out _ _ (ext4c HC4.out HXG5.out) (fun hSG5 => ?_)
                        clear hK K
                        try simp only [Act.put, List.setIfInBounds_toArray, List.set_cons_zero, List.set_cons_succ]
                        refine wpAnyH_takeL (i := 12) (v := ?Gv12x13) rfl (by kernel_rfl) (by kernel_rfl) (by kernel_rfl) (fun _ _ _ h => h) (Or.inl ⟨by rfl, ?Gy12x13⟩) (by assumption) ?Gr12x13
                        case Gy12x13 => first | (intro w hSw; (try dsimp only at hSw); go_simp; done) | (intro w hSw; (try dsimp only at hSw); go_simp; with_reducible rfl)
                        case' Gr12x13 => try simp only [Act.put, List.setIfInBounds_toArray, List.set_cons_zero, List.set_cons_succ]
                        refine wpAnyH_takeL (i := 13) (v := ?Gv13x14) rfl (by kernel_rfl) (by kernel_rfl) (by kernel_rfl) (fun _ _ _ h => h) (Or.inl ⟨by rfl, ?Gy13x14⟩) (by assumption) ?Gr13x14
                        case Gy13x14 => first | (intro w hSw; (try dsimp only at hSw); go_simp; done) | (intro w hSw; (try dsimp only at hSw); go_simp; with_reducible rfl)
                        case' Gr13x14 => try simp only [Act.put, List.setIfInBounds_toArray, List.set_cons_zero, List.set_cons_succ]
                        refine wpAnyH_ready (rs := [14]) (by kernel_rfl) (by simp) ?_
                        refine (AllReadyH.consL rfl (fun K hK => ?Gb14x15) AllReadyH.nil)
                        case' Gb14x15 =>
                          go_simp
                          go_at_call 11
                          refine (example_any _).mono ?_
                          rintro e w19 ⟨rfl, hEG6⟩
                          have HXG6 := hid (HXG5.out.trans hEG6)
                          have HS11 := hid (HS11.out.ext hEG6)
                          have HS12 := hid (HS12.out.ext hEG6)
                          have HS14 := hid (HS14.out.ext hEG6)
                          have HS15 := hid (HS15.out.ext hEG6)
                          clear hEG6
                          refine hK.out _ _ (ext4c HC4.out HXG6.out) (fun hSG6 => ?_)
                          clear hK K
                          try simp only [Act.put, List.setIfInBounds_toArray, List.set_cons_zero, List.set_cons_succ]
                          refine wpAnyH_takeL (i := 15) (v := ?Gv15x16) rfl (by kernel_rfl) (by kernel_rfl) (by kernel_rfl) (fun _ _ _ h => h) (Or.inl ⟨by rfl, ?Gy15x16⟩) (by assumption) ?Gr15x16
                          case Gy15x16 => first | (intro w hSw; (try dsimp only at hSw); go_simp; done) | (intro w hSw; (try dsimp only at hSw); go_simp; with_reducible rfl)
                          case' Gr15x16 => try simp only [Act.put, List.setIfInBounds_toArray, List.set_cons_zero, List.set_cons_succ]
                          refine wpAnyH_takeL (i := 16) (v := ?Gv16x17) rfl (by kernel_rfl) (by kernel_rfl) (by kernel_rfl) (fun _ _ _ h => h) (Or.inl ⟨by rfl, ?Gy16x17⟩) (by assumption) ?Gr16x17
                          case Gy16x17 => first | (intro w hSw; (try dsimp only at hSw); go_simp; done) | (intro w hSw; (try dsimp only at hSw); go_simp; with_reducible rfl)
                          case' Gr16x17 => try simp only [Act.put, List.setIfInBounds_toArray, List.set_cons_zero, List.set_cons_succ]
                          have HXend := HXG6
                          refine wpAnyH_done (by kernel_rfl) ?_ _
              go_wp2
              go_ret
              exact ⟨by simp, HX3.out.trans (HXW.out.trans HXend.out)⟩
end Go.Proofs.Ytcddmggefmfkkaa
