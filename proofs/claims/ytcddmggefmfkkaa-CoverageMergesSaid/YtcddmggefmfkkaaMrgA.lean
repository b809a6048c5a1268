/- decompilerref45: Hits, Missed; fewHits. -/
import Derived.Test.YtcddmggefmfkkaaBlkB
namespace Go.Proofs.Ytcddmggefmfkkaa
open Go.RowKit Go.Deco
set_option linter.unusedSimpArgs false
set_option linter.unusedVariables false

theorem min_hit {y : Int} (h : y > 0) : min y 2147483647 = ((hit y : Nat) : Int) := by unfold hit; omega
theorem hit_neg {y : Int} (h : ¬ y > 0) : hit y = 0 := by unfold hit; omega

set_option maxRecDepth 100000 in
set_option maxHeartbeats 2000000 in
theorem hits_any (w : World) (A B : Option Addr) (n c k d : Nat) (bl : List Nat) (hs : List Int) (h1 : Sl u32R w All (.slice A n c) bl) (h2 : Sl i64R w All (.slice B k d) hs) (a : Nat) :
    Calls Try.prog 47 #[.agg #[.slice A n c, .slice B k d], .int .u32 a] w fun e w' => e = .returned (.int .i64 (capH (tot (pairs bl hs) a) : Nat)) ∧ Ext w w' := by
  obtain ⟨z, hz⟩ : ∃ z, capH (tot (pairs bl hs) a) = z := ⟨_, rfl⟩
  rw [hz]
  have HZ := hid hz
  have hn := h1.len
  have hk := h2.len
  obtain ⟨hnc, hcm⟩ := h1.cap
  obtain ⟨hkd, hdm⟩ := h2.cap
  obtain ⟨W0, hW0⟩ : ∃ W0, w.alloc (.cells #[.slice A n c, .slice B k d] 29) = W0 := ⟨_, rfl⟩
  have hE0 : Ext w W0 := by rw [← hW0]; exact (Ext.refl w).alloc _
  have c0 : W0.cell? ⟨w.heap.size, 0, none⟩ = some (.slice A n c) := by rw [← hW0]; simp [go_sem]
  have c1 : W0.cell? ⟨w.heap.size, 1, none⟩ = some (.slice B k d) := by rw [← hW0]; simp [go_sem]
  have H1 := hid (h1.ext hE0)
  have H2 := hid (h2.ext hE0)
  have HN := hid hn
  have HK := hid hk
  have HE0 := hid hE0
  clear hz h1 h2 hn hk hE0
  go_enter Try.func47, Try.ntmps47
  go_wp2
  clear hW0
  go_loop [5, 6] (fun v i => ∃ (j m : Nat), j ≤ n ∧ j ≤ k ∧ m ≤ 2147483647 ∧ v = .int .i64 m ∧ i = .int .i64 j ∧ Hid (capH (tot ((pairs bl hs).take j) a) = m)) (fun _ i => n - (intOf i).toNat)
  case atStart => exact ⟨0, 0, by omega, by omega, by omega, rfl, rfl, hid rfl⟩
  case round =>
    obtain ⟨j, m, hjn, hjk, hm, rfl, rfl, HM⟩ := hrel
    by_cases hj : j < n ∧ j < k
    · obtain ⟨hj1, hj2⟩ := hj
      obtain ⟨x, hx⟩ : ∃ x, bl[j]? = some x := ⟨_, List.getElem?_eq_getElem (by have := HN.out; omega)⟩
      obtain ⟨y, hy⟩ : ∃ y, hs[j]? = some y := ⟨_, List.getElem?_eq_getElem (by have := HK.out; omega)⟩
      obtain ⟨b, off, rfl, cx, hx32⟩ := H1.out.num_at hx
      obtain ⟨b', off', rfl, cy, hy1, hy2⟩ := Sl.i64_at H2.out hy
      have hst : capH (tot ((pairs bl hs).take (j + 1)) a) = capH (m + if x = a then hit y else 0) := by
        rw [pairs_step hx hy, tot_snoc, ← HM.out, capH_add]
      have HST := hid hst
      clear hx hy hst
      by_cases hxa : x = a
      · subst hxa
        have hb : ((x : Int) == (x : Int)) = true := by simp
        by_cases hy0 : y > 0
        · have hmn := min_hit hy0
          obtain ⟨h, hh⟩ : ∃ h, hit y = h := ⟨_, rfl⟩
          have hhl : h ≤ 2147483647 := by rw [← hh]; exact hit_le y
          have hcp := capH_int m h
          have hcl := capH_le (m + h)
          rw [hh] at hmn HST
          have hw : IntKind.i64.wrap ((m : Int) + (h : Int)) = (m : Int) + (h : Int) := IntWalk.i64_in _ (by omega)
          obtain ⟨v, hv⟩ : ∃ v, capH (m + h) = v := ⟨_, rfl⟩
          rw [hv] at hcp hcl
          have HS2 := hid (show capH (tot ((pairs bl hs).take (j + 1)) x) = v by rw [HST.out, if_pos rfl, hv])
          clear hh hv HST
          go_wp2
          first
            | go_round
            | refine ⟨?rel, ?measure⟩
          case rel => exact ⟨j + 1, v, by omega, by omega, hcl, by go_num, by go_num, HS2⟩
          case measure => simp [intOf]; omega
        · have HS2 := hid (show capH (tot ((pairs bl hs).take (j + 1)) x) = m by rw [HST.out, if_pos rfl, hit_neg hy0, Nat.add_zero]; unfold capH; omega)
          clear HST
          go_wp2
          first
            | go_round
            | refine ⟨?rel, ?measure⟩
          case rel => exact ⟨j + 1, m, by omega, by omega, hm, rfl, by go_num, HS2⟩
          case measure => simp [intOf]; omega
      · have hb : ((x : Int) == (a : Int)) = false := by simp; omega
        have HS2 := hid (show capH (tot ((pairs bl hs).take (j + 1)) a) = m by rw [HST.out, if_neg hxa, Nat.add_zero]; unfold capH; omega)
        clear HST
        go_wp2
        first
          | go_round
          | refine ⟨?rel, ?measure⟩
        case rel => exact ⟨j + 1, m, by omega, by omega, hm, rfl, by go_num, HS2⟩
        case measure => simp [intOf]; omega
    · have hzm : m = z := by
        rw [← HZ.out, ← HM.out, List.take_of_length_le]
        rw [pairs, List.length_zip]
        have := HN.out
        have := HK.out
        omega
      subst hzm
      have hor : (¬ j < n) ∨ (j < n ∧ ¬ j < k) := by omega
      rcases hor with h | ⟨h, h'⟩
      all_goals
        clear hj
        go_wp2
        go_ret
        exact ⟨rfl, HE0.out⟩

def fewHB (n k : Nat) : Bool := decide (n ≤ 30) && decide (k ≤ 40)
set_option maxRecDepth 100000 in
set_option maxHeartbeats 400000 in
theorem fewHits_any (w : World) (A B : Option Addr) (n c k d : Nat) :
    Calls Try.prog 30 #[.agg #[.slice A n c, .slice B k d]] w fun e w' => e = .returned (.bool (fewHB n k)) ∧ Ext w w' := by
  obtain ⟨r, hr⟩ : ∃ r, fewHB n k = r := ⟨_, rfl⟩
  rw [hr]
  have HR := hid hr
  clear hr
  by_cases h1 : n ≤ 30
  · have h1' : (n : Int) ≤ 30 := by omega
    by_cases h2 : k ≤ 40
    · have h2' : (k : Int) ≤ 40 := by omega
      have hrr : r = true := by rw [← HR.out, fewHB, decide_eq_true h1, decide_eq_true h2]; rfl
      subst hrr
      clear h1 h2
      go_enter Try.func30, Try.ntmps30
      go_wp2
      go_ret
      exact ⟨by simp, (Ext.refl w).alloc _⟩
    · have h2' : ¬ ((k : Int) ≤ 40) := by omega
      have hrr : r = false := by rw [← HR.out, fewHB, decide_eq_false h2, Bool.and_false]
      subst hrr
      clear h1
      go_enter Try.func30, Try.ntmps30
      go_wp2
      go_ret
      exact ⟨by simp, (Ext.refl w).alloc _⟩
  · have h1' : ¬ ((n : Int) ≤ 30) := by omega
    have hrr : r = false := by rw [← HR.out, fewHB, decide_eq_false h1, Bool.false_and]
    subst hrr
    go_enter Try.func30, Try.ntmps30
    go_wp2
    go_ret
    exact ⟨by simp, (Ext.refl w).alloc _⟩

set_option maxRecDepth 100000 in
set_option maxHeartbeats 2000000 in
theorem rmissed_any (w : World) (A B C : Option Addr) (n c k d k2 d2 : Nat) (l bl : List Nat) (hl : Sl basR w All (.slice A n c) l) (hb : Sl u32R w All (.slice B k d) bl) (hn : n ≤ 1000) :
    Calls Try.prog 32 #[.slice A n c, .agg #[.slice B k d, .slice C k2 d2]] w (ListOf w (missedOf l bl)) := by
  obtain ⟨hnc, hcm⟩ := hl.cap
  have hln := hl.len
  obtain ⟨W0, hW0⟩ : ∃ W0, w.alloc (.cells #[.slice B k d, .slice C k2 d2] 29) = W0 := ⟨_, rfl⟩
  have hE0 : Ext w W0 := by rw [← hW0]; exact (Ext.refl w).alloc _
  have c0 : W0.cell? ⟨w.heap.size, 0, none⟩ = some (.slice B k d) := by rw [← hW0]; simp [go_sem]
  have HC0 := hid c0
  have HL := hid (hl.ext hE0)
  have HB := hid (hb.ext hE0)
  have HE0 := hid hE0
  have HLN := hid hln
  clear hl hb hE0 hln c0
  go_enter Try.func32, Try.ntmps32
  go_wp2
  clear hW0
  go_loopw [5, 6] (fun v i wr => ∃ (j : Nat) (A1 : Option Addr) (c1 : Nat) (M : List Nat), j ≤ n ∧ M.length ≤ j ∧ v = .slice A1 M.length c1 ∧ i = .int .i64 j ∧ Hid (M = missedOf (l.take j) bl) ∧ Hid (Sl u32R wr All (.slice A1 M.length c1) M) ∧ Hid (Ext W0 wr)) (fun _ i _ => n - (intOf i).toNat)
  case atStart => exact ⟨0, none, 0, [], by omega, by simp, rfl, rfl, hid rfl, hid Sl.nil, hid (Ext.refl _)⟩
  case round =>
    obtain ⟨j, A1, c1, M, hj, hMl, rfl, rfl, HM, HS, HX⟩ := hrel
    have c0 := HX.out.cell HC0.out
    by_cases h1 : j < n
    · obtain ⟨x, hx⟩ : ∃ x, l[j]? = some x := ⟨_, List.getElem?_eq_getElem (by have := HLN.out; omega)⟩
      obtain ⟨gb, off, e5, A5, n5, d5, B5, m5, d55, C5, q5, f5, rfl, hx32, y0, y1, -, -, -⟩ := Sl.bas_at (HL.out.ext HX.out) hx
      have hst : missedOf (l.take (j + 1)) bl = if bl.contains x then missedOf (l.take j) bl else insOf (missedOf (l.take j) bl) x := by
        have e : (l.take (j + 1)).filter (fun a => !bl.contains a) = (l.take j).filter (fun a => !bl.contains a) ++ if bl.contains x then [] else [x] := by
          rw [take_snoc' hx, List.filter_append, List.filter_cons]
          cases bl.contains x <;> rfl
        rw [missedOf, e]
        cases bl.contains x with
        | true => rw [if_pos rfl, if_pos rfl, List.append_nil]; rfl
        | false => rw [if_neg (by simp), if_neg (by simp), asc_snoc]; rfl
      have HST := hid hst
      obtain ⟨r, hr⟩ : ∃ r, bl.contains x = r := ⟨_, rfl⟩
      rw [hr] at HST
      have HR := hid hr
      clear hst hx y1 hr
      cases r with
      | true =>
        go_wp2
        go_quiet ((go_at_call 28; exact Calls.quiet_of_same ((has_any _ All B k d bl ((HB.out.ext HX.out).ext ((Ext.refl _).drewN _)) x).mono fun e w' h => ⟨by rw [h.1, HR.out], h.2.symm⟩)))
        go_wp2
        first
          | go_roundw
          | refine ⟨?rel, ?measure⟩
        case rel => exact ⟨j + 1, A1, c1, M, by omega, by omega, rfl, by go_num, hid (by rw [HM.out, HST.out]; rfl), hid (HS.out.ext ((Ext.refl _).drewN _)), hid (HX.out.drewN _)⟩
        case measure => simp [intOf]; omega
      | false =>
        go_wp2
        go_quiet ((go_at_call 28; exact Calls.quiet_of_same ((has_any _ All B k d bl ((HB.out.ext HX.out).ext ((Ext.refl _).drewN _)) x).mono fun e w' h => ⟨by rw [h.1, HR.out], h.2.symm⟩)))
        go_wp2_with fail
        refine (insert_any _ _ (Ext.refl _) A1 M.length c1 M (HS.out.ext ((Ext.refl _).drewN _)) (by omega) x hx32).mono ?_
        rintro e w5 ⟨hx5, A6, c6, rfl, hs6⟩
        have HX5 := hid ((HX.out.drewN _).trans hx5)
        have HS6 := hid hs6
        have hil := insOf_length M x
        clear hx5 hs6
        go_wp2
        first
          | go_roundw
          | refine ⟨?rel, ?measure⟩
        case rel => exact ⟨j + 1, A6, c6, insOf M x, by omega, by omega, rfl, by go_num, hid (by rw [HM.out, HST.out]; rfl), HS6, HX5⟩
        case measure => simp [intOf]; omega
    · obtain rfl : j = n := by omega
      have hMe : M = missedOf l bl := by rw [HM.out, List.take_of_length_le (by have := HLN.out; omega)]
      subst hMe
      go_wp2
      go_ret
      exact ⟨HE0.out.trans HX.out, A1, c1, rfl, HS.out⟩
end Go.Proofs.Ytcddmggefmfkkaa
