/- slices.BinarySearch at ascending []uint32. -/
import Derived.Test.YtolbnhkdpbdhhaaU32A
namespace Go.Proofs.Ytolbnhkdpbdhhaa
open Go.RowKit Go.Deco
set_option linter.unusedSimpArgs false
set_option linter.unusedVariables false

theorem cnan_any (w : World) (x : Nat) : Calls Try.prog 80 #[.int .u32 x] w fun e w' => e = .returned (.bool false) ∧ w = w' := by
  go_enter Try.func80, Try.ntmps80
  have n1 : ((x : Int) != x) = false := by simp
  go_wp2
  go_ret
  exact ⟨rfl, rfl⟩
theorem snan_any (w : World) (x : Nat) : Calls Try.prog 65 #[.int .u32 x] w fun e w' => e = .returned (.bool false) ∧ w = w' := by
  go_enter Try.func65, Try.ntmps65
  have n1 : ((x : Int) != x) = false := by simp
  go_wp2
  go_ret
  exact ⟨rfl, rfl⟩
theorem less_any (w : World) (x y : Nat) : Calls Try.prog 64 #[.int .u32 x, .int .u32 y] w fun e w' => e = .returned (.bool (decide (x < y))) ∧ w = w' := by
  go_enter Try.func64, Try.ntmps64
  go_wp2_with fail
  refine (cnan_any _ x).mono ?_
  rintro e w1 ⟨rfl, hw1⟩
  subst hw1
  go_wp2
  go_ret
  exact ⟨ret_bool (by simp), rfl⟩

set_option maxRecDepth 100000 in
set_option maxHeartbeats 2000000 in
theorem bsearch_any (w : World) (A : Option Addr) (n c : Nat) (l : List Nat) (hl : Sl u32R w All (.slice A n c) l) (hp : l.Pairwise (· < ·)) (hn : n ≤ 1000000) (x : Nat) :
    Calls Try.prog 53 #[.slice A n c, .int .u32 x] w fun e w' => (∃ i : Nat, e = .returned (.tuple #[.int .i64 i, .bool (l.contains x)])) ∧ w = w' := by
  have HLN := hid hl.len
  have hcap := hl.cap
  have HS := hid hl
  have HP := hid hp
  obtain ⟨b, hb⟩ : ∃ b, l.contains x = b := ⟨_, rfl⟩
  rw [hb]
  have HB := hid hb
  clear hl hp hb
  go_enter Try.func53, Try.ntmps53
  go_wp2
  go_loop [7, 8] (fun p q => ∃ i j : Nat, i ≤ j ∧ j ≤ n ∧ p = .int .i64 i ∧ q = .int .i64 j ∧ Hid (∀ k y, k < i → l[k]? = some y → y < x) ∧ Hid (∀ k y, j ≤ k → l[k]? = some y → x ≤ y)) (fun p q => (intOf q).toNat - (intOf p).toNat)
  case atStart => exact ⟨0, n, by omega, by omega, rfl, rfl, hid (fun k y h => by omega), hid (fun k y h hk => by have := (List.getElem?_eq_some_iff.1 hk).1; have := HLN.out; omega)⟩
  case round =>
    obtain ⟨i, j, hij, hjn, rfl, rfl, H1, H2⟩ := hrel
    by_cases h1 : i < j
    · obtain ⟨h, hh⟩ : ∃ h, (i + j) / 2 = h := ⟨_, rfl⟩
      have g1 : i ≤ h := by omega
      have g2 : h < j := by omega
      obtain ⟨y, hy⟩ : ∃ y, l[h]? = some y := ⟨_, List.getElem?_eq_getElem (by have := HLN.out; omega)⟩
      obtain ⟨bb, off, rfl, c0, -⟩ := Sl.num_at HS.out hy
      have HY := hid hy
      have e1 : IntKind.i64.wrap ((i : Int) + (j : Int)) = (i : Int) + j := IntWalk.i64_in _ (by omega)
      have e2 : IntKind.u64.wrap ((i : Int) + (j : Int)) = (i : Int) + j := IntWalk.u64_in _ (by omega)
      have e3 : ((i : Int) + (j : Int)) / 2 = (h : Int) := by omega
      have e4 : IntKind.i64.wrap (h : Int) = (h : Int) := IntWalk.i64_in _ (by omega)
      have e5 : IntKind.u64.wrap (h : Int) = (h : Int) := IntWalk.u64_in _ (by omega)
      have i1 : (0 : Int) ≤ (h : Int) := by omega
      have i2 : (h : Int) < (n : Int) := by omega
      clear hy
      go_wp2_with fail
      refine (less_any _ y x).mono ?_
      rintro e w1 ⟨rfl, hw1⟩
      subst hw1
      clear c0 e1 e2 e3 e5
      by_cases h2 : y < x
      · have d1 : decide (y < x) = true := by simpa using h2
        rw [d1]
        clear d1
        have HL2 := hid h2
        clear h2
        go_wp2
        go_round
        case rel => exact ⟨h + 1, j, by omega, by omega, by go_num, rfl, hid (fun k z hk hz => by
          rcases Nat.lt_or_ge k h with h5 | h5
          · have := (List.pairwise_iff_getElem.1 HP.out) k h (List.getElem?_eq_some_iff.1 hz).1 (List.getElem?_eq_some_iff.1 HY.out).1 h5
            rw [(List.getElem?_eq_some_iff.1 hz).2, (List.getElem?_eq_some_iff.1 HY.out).2] at this
            have := HL2.out
            omega
          · obtain rfl : k = h := by omega
            rw [HY.out] at hz
            cases hz
            exact HL2.out), H2⟩
        case measure => simp [intOf]; omega
      · have d1 : decide (y < x) = false := by simpa using h2
        rw [d1]
        clear d1
        have HL2 := hid h2
        clear h2
        go_wp2
        go_round
        case rel => exact ⟨i, h, by omega, by omega, rfl, rfl, H1, hid (fun k z hk hz => by
          have h0 := HL2.out
          rcases Nat.lt_or_ge h k with h5 | h5
          · have := (List.pairwise_iff_getElem.1 HP.out) h k (List.getElem?_eq_some_iff.1 HY.out).1 (List.getElem?_eq_some_iff.1 hz).1 h5
            rw [(List.getElem?_eq_some_iff.1 hz).2, (List.getElem?_eq_some_iff.1 HY.out).2] at this
            omega
          · obtain rfl : k = h := by omega
            rw [HY.out] at hz
            cases hz
            omega)⟩
        case measure => simp [intOf]; omega
    · obtain rfl : i = j := by omega
      by_cases h3 : i < n
      · obtain ⟨y, hy⟩ : ∃ y, l[i]? = some y := ⟨_, List.getElem?_eq_getElem (by have := HLN.out; omega)⟩
        obtain ⟨bb, off, rfl, c0, -⟩ := Sl.num_at HS.out hy
        have hxy : x ≤ y := H2.out i y (Nat.le_refl _) hy
        by_cases h4 : y = x
        · subst h4
          have n1 : ((y : Int) == y) = true := by simp
          have HB2 : Hid (b = true) := hid (by rw [← HB.out]; simpa using List.mem_of_getElem? hy)
          clear hy
          go_wp2
          go_ret2
          obtain rfl := HB2.out
          exact ⟨⟨i, rfl⟩, rfl⟩
        · have n1 : ((y : Int) == x) = false := by simp; omega
          have HB2 : Hid (b = false) := hid (by
            rw [← HB.out]
            rw [Bool.eq_false_iff]
            intro hc
            have hm : x ∈ l := by simpa using hc
            obtain ⟨k, hk⟩ := List.getElem?_of_mem hm
            rcases Nat.lt_or_ge k i with h5 | h5
            · have := H1.out k x h5 hk
              omega
            · have h6 : i < k := by
                rcases Nat.lt_or_ge i k with h7 | h7
                · exact h7
                · obtain rfl : k = i := by omega
                  rw [hy] at hk
                  cases hk
                  exact absurd rfl h4
              have := (List.pairwise_iff_getElem.1 HP.out) i k (List.getElem?_eq_some_iff.1 hy).1 (List.getElem?_eq_some_iff.1 hk).1 h6
              rw [(List.getElem?_eq_some_iff.1 hk).2, (List.getElem?_eq_some_iff.1 hy).2] at this
              omega)
          clear hy h4
          go_wp2_with fail
          refine (snan_any _ y).mono ?_
          rintro e w1 ⟨rfl, hw1⟩
          subst hw1
          go_wp2
          go_ret2
          obtain rfl := HB2.out
          exact ⟨⟨i, rfl⟩, rfl⟩
      · have HB2 : Hid (b = false) := hid (by
          rw [← HB.out, Bool.eq_false_iff]
          intro hc
          have hm : x ∈ l := by simpa using hc
          obtain ⟨k, hk⟩ := List.getElem?_of_mem hm
          have := (List.getElem?_eq_some_iff.1 hk).1
          have := H1.out k x (by have := HLN.out; omega) hk
          omega)
        go_wp2
        go_ret2
        obtain rfl := HB2.out
        exact ⟨⟨i, rfl⟩, rfl⟩
end Go.Proofs.Ytolbnhkdpbdhhaa
