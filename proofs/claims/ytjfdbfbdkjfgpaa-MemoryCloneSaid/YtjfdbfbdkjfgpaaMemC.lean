/- The walks of the package 'memory': Load. -/
import Derived.Test.YtjfdbfbdkjfgpaaMemB
namespace Go.Proofs.Ytjfdbfbdkjfgpaa
open Go.RowKit Go.Deco Go.Maps

/-- What Load computes. -/
def loadOf (regs : List Reg) (M : Nat → Option Nat) (a : Nat) (width : Int) : Nat × Nat :=
  if okWidth width = true then (match mappedReg regs a width.toNat with | none => (0, 11) | some r => (leNum (presentOf r M a width.toNat), 0)) else (0, 2)

set_option maxRecDepth 100000 in
set_option maxHeartbeats 1000000 in
theorem load_any (w : World) (mb bm n : Nat) (regs : List Reg) (M : Nat → Option Nat) (hm : Mem w mb bm regs M n) (a : Nat) (ha : a < 4294967296) (q : Int) (hq1 : -9223372036854775808 ≤ q) (hq2 : q ≤ 9223372036854775807) :
    Calls Try.prog 13 #[.pointer (some ⟨mb, 0, none⟩), .int .u32 a, .int .i64 q] w fun e w' => e = .returned (.tuple #[.int .u32 (loadOf regs M a q).1, .int .i64 (loadOf regs M a q).2]) ∧ Ext w w' := by
  have HM := hid hm; clear hm
  obtain ⟨x, hx⟩ : ∃ x, loadOf regs M a q = x := ⟨_, rfl⟩
  rw [hx]
  have HX := hid hx; clear hx
  go_enter Try.func13, Try.ntmps13
  go_wp2_with fail
  refine (made_any _ mb bm n regs M HM.out).mono ?_
  rintro e w' ⟨rfl, rfl⟩
  go_wp2_with fail
  refine (valid_any _ q).mono ?_
  rintro e w' ⟨rfl, rfl⟩
  obtain ⟨z, hz⟩ : ∃ z, okWidth q = z := ⟨_, rfl⟩
  rw [hz]
  have HZ := hid hz
  cases z with
  | false =>
    clear hz
    go_wp2
    go_ret2
    have := HX.out
    rw [loadOf, if_neg (by simp [HZ.out])] at this
    subst this
    exact ⟨rfl, Ext.refl w⟩
  | true =>
    have hw : q = 1 ∨ q = 2 ∨ q = 4 := by simpa [okWidth, or_assoc] using hz
    clear hz
    obtain ⟨k, hk, hk2⟩ : ∃ k : Nat, q = k ∧ 1 ≤ k ∧ k ≤ 4 := ⟨q.toNat, by omega, by omega, by omega⟩
    clear hw
    subst hk
    go_wp2_with fail
    refine (mapped_any w w (Ext.refl w) mb bm n regs M HM.out a ha k (by omega)).mono ?_
    rintro e w1 ⟨hx1, hp⟩
    have HE := hid hx1; clear hx1
    obtain ⟨o, ho⟩ : ∃ o, mappedReg regs a k = o := ⟨_, rfl⟩
    rw [ho] at hp
    cases o with
    | none =>
      subst hp
      have HO := hid ho; clear ho
      go_wp2
      go_ret2
      have := HX.out
      rw [loadOf, if_pos HZ.out, Int.toNat_natCast, HO.out] at this
      subst this
      exact ⟨rfl, HE.out.alloc _⟩
    | some r =>
      obtain ⟨dA, dc, rfl, hd, hs1, hs2⟩ := hp
      have HD := hid hd; clear hd
      have hfr : findReg regs a = some r := by
        unfold mappedReg at ho
        split at ho
        · cases ho
        · rename_i r' hr'
          split at ho
          · cases ho
          · cases ho
            exact hr'
      have hroom : ¬ r.from_ + r.data.length - a < k := by
        unfold mappedReg at ho
        rw [hfr] at ho
        intro hc
        simp [hc] at ho
      obtain ⟨hr1, hr2⟩ := findReg_has hfr
      have HO := hid ho; clear ho hfr
      obtain ⟨d, rfl⟩ : ∃ d, a = r.from_ + d := ⟨a - r.from_, by omega⟩
      go_wp2_with fail
      refine (present_any w _ (HE.out.alloc _) mb bm n regs M HM.out r dA dc HD.out hs1 hs2 d k (by omega) (by omega)).mono ?_
      rintro e w2 ⟨A, c, rfl, hown, hx2⟩
      have hlen : (presentOf r M (r.from_ + d) k).length = k := by rw [presentOf_length]; omega
      have HL := hid hlen
      obtain ⟨L, hL⟩ : ∃ L, presentOf r M (r.from_ + d) k = L := ⟨_, rfl⟩
      rw [hL] at hlen hown
      rw [hL, hlen]
      rw [hlen] at hown
      have HLL := hid hL; clear hL
      have HW := hid hown.sl
      have HX2 := hid (HE.out.trans (((Ext.refl w1).alloc _).trans hx2))
      clear hown hx2
      obtain ⟨hkc, hcm⟩ := HW.out.cap
      have HLN := hid hlen; clear hlen
      go_wp2
      go_loop [10, 35] (fun v i => ∃ j : Nat, j ≤ k ∧ i = .int .i64 j ∧ v = .int .u32 (leNum (L.take j) : Nat)) (fun _ i => k - (intOf i).toNat)
      case atStart => exact ⟨0, by omega, rfl, rfl⟩
      case round =>
        obtain ⟨j, hj, rfl, rfl⟩ := hrel
        by_cases h1 : j < k
        · obtain ⟨y, hy⟩ : ∃ y, L[j]? = some y := ⟨_, List.getElem?_eq_getElem (by have := HLN.out; omega)⟩
          obtain ⟨gb, off, rfl, cc, hlt⟩ := HW.out.num_at hy
          obtain ⟨t, ht⟩ : ∃ t, leNum (L.take j) = t := ⟨_, rfl⟩
          rw [ht]
          have HY := hid hy; clear hy
          have HT := hid ht; clear ht
          have HB := hid (leNum_take_lt HY.out HW.out.num_lt)
          have HS := hid (leNum_take HY.out)
          rcases (show j = 0 ∨ j = 1 ∨ j = 2 ∨ j = 3 by omega) with rfl | rfl | rfl | rfl
          all_goals
            try simp only [Nat.add_zero] at cc
            go_wp2
            go_round
          case rel =>
            refine ⟨1, by omega, rfl, ?_⟩
            rw [HS.out, HT.out]
            have hb := HB.out
            rw [HT.out] at hb
            have := or_shift t y 0 (by omega) (by omega) (by omega)
            simp at this hb ⊢
            rw [this]
          case measure => simp [intOf]; omega
          case rel =>
            refine ⟨2, by omega, rfl, ?_⟩
            rw [HS.out, HT.out]
            have hb := HB.out
            rw [HT.out] at hb
            have := or_shift t y 8 (by omega) (by omega) (by omega)
            simp at this ⊢
            rw [this]; omega
          case measure => simp [intOf]; omega
          case rel =>
            refine ⟨3, by omega, rfl, ?_⟩
            rw [HS.out, HT.out]
            have hb := HB.out
            rw [HT.out] at hb
            have := or_shift t y 16 (by omega) (by omega) (by omega)
            simp at this ⊢
            rw [this]; omega
          case measure => simp [intOf]; omega
          case rel =>
            refine ⟨4, by omega, rfl, ?_⟩
            rw [HS.out, HT.out]
            have hb := HB.out
            rw [HT.out] at hb
            have := or_shift t y 24 (by omega) (by omega) (by omega)
            simp at this ⊢
            rw [this]; omega
          case measure => simp [intOf]; omega
        · obtain rfl : k = j := by omega
          go_wp2
          go_ret2
          have := HX.out
          rw [loadOf, if_pos HZ.out, Int.toNat_natCast, HO.out] at this
          simp only [HLL.out] at this
          subst this
          refine ⟨?_, HX2.out⟩
          have e : List.take k L = L := List.take_of_length_le (by have := HLN.out; omega)
          rw [e]
          rfl
end Go.Proofs.Ytjfdbfbdkjfgpaa
