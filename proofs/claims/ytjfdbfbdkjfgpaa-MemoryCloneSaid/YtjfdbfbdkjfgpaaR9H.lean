/- The reference's memory: Load, Dump, Changes. -/
import Derived.Test.YtjfdbfbdkjfgpaaR9G
namespace Go.Proofs.Ytjfdbfbdkjfgpaa
open Go.RowKit Go.Deco
set_option linter.unusedSimpArgs false
set_option linter.unusedVariables false

theorem dumpOf_ref {l : List Sec} (h0 : secCheck l = 0) {M : Nat → Option Nat} {a q : Nat} (hr : ¬ roomOf (regsOf l) a < q) : dumpOf (regsOf l) M a q = (bytesOf (preOf (regsOf l) M) a q, 0) := by
  unfold dumpOf
  rw [if_neg (by omega)]
  by_cases hq : q = 0
  · subst hq
    rw [if_pos (by simp)]
    rfl
  · rw [if_neg (by omega), Int.toNat_natCast]
    cases hm : mappedReg (regsOf l) a q with
    | none => exact absurd ((room_mapped (by omega)).2 hm) hr
    | some r =>
      simp only
      rw [← bytesOf_eq h0 (mappedReg_some hm).1, Nat.min_eq_left (by omega)]
theorem dumpOf_no {l : List Sec} {M : Nat → Option Nat} {a q : Nat} (hr : roomOf (regsOf l) a < q) : dumpOf (regsOf l) M a q = ([], 11) := by
  unfold dumpOf
  rw [if_neg (by omega), if_neg (by omega), Int.toNat_natCast, (room_mapped (by omega)).1 hr]

set_option maxRecDepth 100000 in
set_option maxHeartbeats 1000000 in
theorem dump9_any (wo w : World) (ho : Ext wo w) (LA : Option Addr) (n c : Nat) (l : List Sec) (hl : Sl secR wo All (.slice LA n c) l) (h0 : secCheck l = 0) (CA : Option Addr) (cm cd : Nat) (cs : List (Nat × Nat)) (hc : Sl cellR wo All (.slice CA cm cd) cs)
    (hlt : ∀ a, preOf (regsOf l) (lookIn cs) a < 256) (a : Nat) (ha : a < 4294967296) (q : Int) (hq1 : -9223372036854775808 ≤ q) (hq2 : q ≤ 9223372036854775807) :
    Calls Try.prog 43 #[.agg #[.bool true, .slice LA n c, .slice CA cm cd], .int .u32 a, .int .i64 q] w (BytesPost w (dumpOf (regsOf l) (lookIn cs) a q)) := by
  have HS := hid hl; clear hl
  have HC := hid hc; clear hc
  have HLT := hid hlt; clear hlt
  have HO := hid ho; clear ho
  have H0 := hid h0; clear h0
  obtain ⟨X, hX⟩ : ∃ X, dumpOf (regsOf l) (lookIn cs) a q = X := ⟨_, rfl⟩
  rw [hX]
  have HX := hid hX; clear hX
  obtain ⟨W0, hW0⟩ : ∃ W0, w.alloc (Obj.cells #[.bool true, .slice LA n c, .slice CA cm cd] 45) = W0 := ⟨_, rfl⟩
  have hE : Ext w W0 := by rw [← hW0]; exact (Ext.refl w).alloc _
  have b0 : W0.cell? ⟨w.heap.size, 0, none⟩ = some (.bool true) := by rw [← hW0]; simp
  have b1 : W0.cell? ⟨w.heap.size, 1, none⟩ = some (.slice LA n c) := by rw [← hW0]; simp
  have b2 : W0.cell? ⟨w.heap.size, 2, none⟩ = some (.slice CA cm cd) := by rw [← hW0]; simp
  have HE := hid hE; clear hE
  have HB := hid (And.intro b0 (And.intro b1 b2))
  go_enter Try.func43, Try.ntmps43
  by_cases hq : q < 0
  · have e : X = ([], 2) := by rw [← HX.out, dumpOf, if_pos hq]
    subst e
    go_wp2
    go_ret2
    exact ⟨HE.out, _, rfl, Sl.nil⟩
  · obtain ⟨k, rfl⟩ : ∃ k : Nat, q = k := ⟨q.toNat, by omega⟩
    clear hq
    go_wp2_with fail
    clear hW0
    refine (rest9_any wo _ (HO.out.trans HE.out) LA n c l HS.out H0.out CA cm cd a ha).mono ?_
    rintro e w1 ⟨rfl, hx1⟩
    obtain ⟨rm, hrm⟩ : ∃ rm, roomOf (regsOf l) a = rm := ⟨_, rfl⟩
    rw [hrm]
    have hrl := room_le H0.out a
    rw [hrm] at hrl
    have HRM := hid hrm; clear hrm
    have HX1 := hid hx1
    have b0 := hx1.cell b0
    have b1 := hx1.cell b1
    have b2 := hx1.cell b2
    clear hx1
    by_cases hr : rm < k
    · have e : X = ([], 11) := by rw [← HX.out, dumpOf_no (by rw [HRM.out]; exact hr)]
      subst e
      go_wp2
      go_ret2
      exact ⟨HE.out.trans HX1.out, _, rfl, Sl.nil⟩
    · have e : X = (bytesOf (preOf (regsOf l) (lookIn cs)) a k, 0) := by rw [← HX.out, dumpOf_ref H0.out (by rw [HRM.out]; exact hr)]
      subst e
      go_wp2_with fail
      refine (bytesFrom9_any wo _ (HO.out.trans (HE.out.trans HX1.out)) LA n c l HS.out H0.out CA cm cd cs HC.out HLT.out a ha k (by omega)).mono ?_
      rintro e w4 ⟨hx4, A4, d4, rfl, hs4⟩
      have HX4 := hid (HX1.out.trans hx4)
      have HS4 := hid hs4
      clear hx4 hs4
      go_wp2
      go_ret2
      exact ⟨HE.out.trans HX4.out, _, rfl, HS4.out.all⟩

theorem leNum_top : ∀ (l : List Nat) (k : Nat) (x : Nat), l[k]? = some x → leNum (l.drop k) = x + 256 * leNum (l.drop (k + 1)) := fun l k x h => by rw [drop_cons' h]; rfl
theorem loadOf_ref {l : List Sec} (h0 : secCheck l = 0) {M : Nat → Option Nat} {a k : Nat} (hk : okWidth k = true) (hr : ¬ roomOf (regsOf l) a < k) : loadOf (regsOf l) M a k = (leNum (bytesOf (preOf (regsOf l) M) a k), 0) := by
  have hk0 : 0 < k := by
    have := okWidth_cases hk
    omega
  unfold loadOf
  rw [if_pos hk, Int.toNat_natCast]
  cases hm : mappedReg (regsOf l) a k with
  | none => exact absurd ((room_mapped hk0).2 hm) hr
  | some r =>
    simp only
    rw [← bytesOf_eq h0 (mappedReg_some hm).1, Nat.min_eq_left (by omega)]

set_option maxRecDepth 100000 in
set_option maxHeartbeats 2000000 in
theorem load9_any (wo w : World) (ho : Ext wo w) (LA : Option Addr) (n c : Nat) (l : List Sec) (hl : Sl secR wo All (.slice LA n c) l) (h0 : secCheck l = 0) (CA : Option Addr) (cm cd : Nat) (cs : List (Nat × Nat)) (hc : Sl cellR wo All (.slice CA cm cd) cs)
    (hlt : ∀ a, preOf (regsOf l) (lookIn cs) a < 256) (a : Nat) (ha : a < 4294967296) (q : Int) (hq1 : -9223372036854775808 ≤ q) (hq2 : q ≤ 9223372036854775807) :
    Calls Try.prog 42 #[.agg #[.bool true, .slice LA n c, .slice CA cm cd], .int .u32 a, .int .i64 q] w fun e w' => e = .returned (.tuple #[.int .u32 (loadOf (regsOf l) (lookIn cs) a q).1, .int .i64 (loadOf (regsOf l) (lookIn cs) a q).2]) ∧ Ext w w' := by
  have HS := hid hl; clear hl
  have HC := hid hc; clear hc
  have HLT := hid hlt; clear hlt
  have HO := hid ho; clear ho
  have H0 := hid h0; clear h0
  obtain ⟨X, hX⟩ : ∃ X, loadOf (regsOf l) (lookIn cs) a q = X := ⟨_, rfl⟩
  rw [hX]
  have HX := hid hX; clear hX
  obtain ⟨W0, hW0⟩ : ∃ W0, w.alloc (Obj.cells #[.bool true, .slice LA n c, .slice CA cm cd] 45) = W0 := ⟨_, rfl⟩
  have hE : Ext w W0 := by rw [← hW0]; exact (Ext.refl w).alloc _
  have b0 : W0.cell? ⟨w.heap.size, 0, none⟩ = some (.bool true) := by rw [← hW0]; simp
  have b1 : W0.cell? ⟨w.heap.size, 1, none⟩ = some (.slice LA n c) := by rw [← hW0]; simp
  have b2 : W0.cell? ⟨w.heap.size, 2, none⟩ = some (.slice CA cm cd) := by rw [← hW0]; simp
  have HE := hid hE; clear hE
  have HB := hid (And.intro b0 (And.intro b1 b2))
  go_enter Try.func42, Try.ntmps42
  go_wp2_with fail
  clear hW0 b0
  refine (isWidth9_any W0 q).mono ?_
  rintro e w' ⟨rfl, rfl⟩
  obtain ⟨z, hz⟩ : ∃ z, okWidth q = z := ⟨_, rfl⟩
  rw [hz]
  have HZ := hid hz
  cases z with
  | false =>
    clear hz
    have e : X = (0, 2) := by rw [← HX.out, loadOf, if_neg (by simp [HZ.out])]
    subst e
    go_wp2
    go_ret2
    exact ⟨rfl, HE.out⟩
  | true =>
    have hw := okWidth_cases hz
    clear hz
    obtain ⟨k, hk, hk1, hk2⟩ : ∃ k : Nat, q = k ∧ 1 ≤ k ∧ k ≤ 4 := ⟨q.toNat, by omega, by omega, by omega⟩
    clear hw
    subst hk
    have b0 := HB.out.1
    go_wp2_with fail
    refine (rest9_any wo _ (HO.out.trans HE.out) LA n c l HS.out H0.out CA cm cd a ha).mono ?_
    rintro e w1 ⟨rfl, hx1⟩
    obtain ⟨rm, hrm⟩ : ∃ rm, roomOf (regsOf l) a = rm := ⟨_, rfl⟩
    rw [hrm]
    have HRM := hid hrm; clear hrm
    have HX1 := hid hx1
    clear hx1 b0 b1 b2
    by_cases hr : rm < k
    · have e : X = (0, 11) := by rw [← HX.out, loadOf, if_pos HZ.out, Int.toNat_natCast, (room_mapped (by omega)).1 (by rw [HRM.out]; exact hr)]
      subst e
      go_wp2
      go_ret2
      exact ⟨rfl, HE.out.trans HX1.out⟩
    · obtain ⟨D, hD⟩ : ∃ D, bytesOf (preOf (regsOf l) (lookIn cs)) a k = D := ⟨_, rfl⟩
      have hdl : D.length = k := by rw [← hD]; exact bytesOf_length _ _ _
      have hdb : ∀ x ∈ D, x < 256 := by
        rw [← hD]
        intro x hx
        obtain ⟨i, _, rfl⟩ := List.mem_map.1 hx
        exact HLT.out _
      have hdat : ∀ i y, D[i]? = some y → preOf (regsOf l) (lookIn cs) ((a + i) % 4294967296) = y := by
        intro i y hy
        rw [← hD, bytesOf, List.getElem?_map] at hy
        obtain ⟨j, hj, rfl⟩ := Option.map_eq_some_iff.1 hy
        have := List.getElem?_eq_some_iff.1 hj
        simp at this
        rw [this.2]
      have e : X = (leNum D, 0) := by rw [← HX.out, loadOf_ref H0.out HZ.out (by rw [HRM.out]; exact hr), hD]
      subst e
      have HDL := hid hdl
      have HDB := hid hdb
      have HDA := hid hdat
      clear hD hdl hdb hdat
      go_wp2
      go_loopw [8, 9] (fun s i wr => ∃ (j t : Nat), j ≤ k ∧ i = .int .i64 ((j : Int) - 1) ∧ s = .int .u32 t ∧ Hid (Ext W0 wr) ∧ Hid (t = leNum (D.drop j))) (fun _ i _ => (intOf i + 1).toNat)
      case atStart => exact ⟨k, 0, by omega, by first | rfl | (congr 1), rfl, HX1, hid (by rw [List.drop_of_length_le (by have := HDL.out; omega)]; rfl)⟩
      case round =>
        obtain ⟨j, t, hj, rfl, rfl, hx, ht⟩ := hrel
        obtain ⟨b0, b1, b2⟩ := HB.out
        have b0 := hx.out.cell b0
        have b1 := hx.out.cell b1
        have b2 := hx.out.cell b2
        rcases j with _ | i
        · have e1 := ht.out
          rw [List.drop_zero] at e1
          subst e1
          have hneg : ((0 : Nat) : Int) - 1 = -1 := rfl
          rw [hneg]
          clear hneg
          go_wp2
          go_ret2
          exact ⟨rfl, HE.out.trans hx.out⟩
        · obtain ⟨y, hy⟩ : ∃ y, D[i]? = some y := ⟨_, List.getElem?_eq_getElem (by have := HDL.out; omega)⟩
          have hyb := HDB.out y (List.mem_of_getElem? hy)
          have htb : t ≤ 16777215 := by
            rw [ht.out]
            have h := leNum_lt (l := D.drop (i + 1)) (fun x hx => HDB.out x (List.mem_of_mem_drop hx))
            rw [List.length_drop, HDL.out] at h
            have : 256 ^ (k - (i + 1)) ≤ 256 ^ 3 := Nat.pow_le_pow_right (by omega) (by omega)
            omega
          obtain ⟨x, hx1⟩ : ∃ x, (a + i) % 4294967296 = x := ⟨_, rfl⟩
          have hxi : ((a : Int) + (i : Int)) % 4294967296 = (x : Int) := by omega
          have hxl : x < 4294967296 := by omega
          have hpy := HDA.out i y hy
          rw [hx1] at hpy
          have HPY := hid hpy
          have HTOP := hid (leNum_top D i y hy)
          have hkc : (((i + 1 : Nat) : Int) - 1) = (i : Int) := by omega
          rw [hkc]
          clear hx1 hpy hy hkc
          go_wp2_with fail
          refine (present9_any wo _ (HO.out.trans (HE.out.trans hx.out)) LA n c l HS.out H0.out CA cm cd cs HC.out x hxl).mono ?_
          rintro e w4 ⟨rfl, hx4⟩
          rw [HPY.out]
          have HX4 := hid (hx.out.trans hx4)
          clear hx4 b0 b1 b2
          go_wp2
          go_roundw
          case rel => exact ⟨i, 256 * t + y, by omega, rfl, by go_num, HX4, hid (by rw [HTOP.out, ← ht.out]; omega)⟩
          case measure => simp [intOf]
end Go.Proofs.Ytjfdbfbdkjfgpaa
