/- The example of the chapter on coverage. -/
import Derived.Test.YtcddmggefmfkkaaCovG
import Derived.Test.YtcddmggefmfkkaaFaiA
import Derived.Test.YtcddmggefmfkkaaLawB
import Derived.Test.YtcddmggefmfkkaaLit
namespace Go.Proofs.Ytcddmggefmfkkaa
open Go.RowKit Go.Deco
set_option linter.unusedSimpArgs false
set_option linter.unusedVariables false

def exRule : Rl := ⟨6, 1, false⟩
theorem fails_lit (w : World) (le : Nat) (co : Int) (pa : Bool) (S : Nat → Prop) (A : Option Addr) (n c : Nat) (l : List Nat) (hl : Sl u32R w S (.slice A n c) l) :
    Calls Try.prog 22 #[.agg #[.int .u32 le, .int .i64 co, .bool pa], .slice A n c] w (OneBool w (failsB ⟨le, co, pa⟩ l)) := fails_any w ⟨le, co, pa⟩ S A n c l hl
set_option maxRecDepth 100000 in
set_option maxHeartbeats 1000000 in
theorem exFails : FailsIs 33 #[] none (fun _ => False) (failsB exRule) (fun _ _ => True) where
  enter args w := callFunc_enter Try.func33 (by kernel_rfl) rfl args w
  call w k A n c l _ _ hl hn := by
    have HS := hid hl
    clear hl
    obtain ⟨r, hr⟩ : ∃ r, failsB exRule l = r := ⟨_, rfl⟩
    rw [hr]
    have HR := hid hr
    clear hr
    show Calls Try.prog 33 #[.slice A n c] w _
    go_enter Try.func33, Try.ntmps33
    go_wp2_with fail
    refine (fails_lit w 6 1 false _ A n c l HS.out).mono ?_
    rintro e w' ⟨rfl, hx⟩
    rw [show failsB ⟨6, 1, false⟩ l = r from HR.out]
    have HX := hid hx
    clear hx
    go_wp2
    go_ret
    exact ⟨rfl, trivial, HX.out.grownBy none⟩
  keep _ _ _ _ _ := trivial
  old _ _ _ _ h := h.elim
  sub _ h := by cases h

theorem ex_blocks : covB (traced [4096, 4112] [4096, 4099, 4096]) = [4096] ∧ covH (traced [4096, 4112] [4096, 4099, 4096]) = [2] := by decide +kernel
theorem ex_missed : missedOf [4096, 4112] [4096] = [4112] := by decide +kernel
theorem ex_inputs : inputsI 1 (numI 4) (2 : Int).toNat = [[0, 0], [4294967295, 4294967295], [0, 1], [12, 219]] := by decide +kernel
theorem ex_min : (minimizeM (failsB exRule) [3, 20, 9]).1 = [9] := by decide +kernel

/-- The example's blocks in memory. -/
theorem ex_bas (w : World) (t : TypeId) : Sl basR (w.alloc (.cells #[.int .u32 4096, .int .u32 0, .slice none 0 0, .slice none 0 0, .slice none 0 0, .int .u32 4112, .int .u32 0, .slice none 0 0, .slice none 0 0, .slice none 0 0] t)) All (.slice (some ⟨w.heap.size, 0, none⟩) 2 2) [4096, 4112] := by
  refine sl_of_chunks (R := basR) (l := [4096, 4112]) (c := 2) (xs := [.int .u32 4096, .int .u32 0, .slice none 0 0, .slice none 0 0, .slice none 0 0, .int .u32 4112, .int .u32 0, .slice none 0 0, .slice none 0 0, .slice none 0 0]) trivial ?_ (fun j u hu => ?_) (by simp) (by simp [maxLen])
  · refine ⟨[.int .u32 4096, .int .u32 0, .slice none 0 0, .slice none 0 0, .slice none 0 0], _, rfl, ⟨0, none, 0, 0, none, 0, 0, none, 0, 0, rfl, by omega⟩, ?_⟩
    exact ⟨[.int .u32 4112, .int .u32 0, .slice none 0 0, .slice none 0 0, .slice none 0 0], [], rfl, ⟨0, none, 0, 0, none, 0, 0, none, 0, 0, rfl, by omega⟩, rfl⟩
  · rw [Nat.zero_add, World.cell?_alloc_new]
    simpa using hu

set_option maxRecDepth 100000 in
set_option maxHeartbeats 4000000 in
theorem example_any (w : World) : Calls Try.prog 11 #[] w (OneBool w true) := by
  have hb0 := ex_bas w 62
  obtain ⟨W0, hW0⟩ : ∃ W0, w.alloc (Obj.cells #[.int .u32 4096, .int .u32 0, .slice none 0 0, .slice none 0 0, .slice none 0 0, .int .u32 4112, .int .u32 0, .slice none 0 0, .slice none 0 0, .slice none 0 0] 62) = W0 := ⟨_, rfl⟩
  rw [hW0] at hb0
  have hE0 : Ext w W0 := by rw [← hW0]; exact (Ext.refl w).alloc _
  have HE0 := hid hE0
  have HB0 := hid hb0
  clear hE0 hb0
  go_enter Try.func11, Try.ntmps11
  go_wp2_with fail
  refine (blocks_any _ _ _ 2 2 3 3 [4096, 4112] [4096, 4099, 4096] (HB0.out.ext ((Ext.refl _).alloc _)) (sl_lit W0 [4096, 4099, 4096] (by decide) (by simp [maxLen]) 36) (by omega) (by omega)).mono ?_
  rintro e w1 ⟨hx1, A1, c1, A2, c2, rfl, hs1, hs2⟩
  rw [ex_blocks.1] at hs1 hs2 ⊢
  rw [ex_blocks.2] at hs2
  have hl1 : ([4096] : List Nat).length = 1 := rfl
  rw [hl1] at hs1 hs2 ⊢
  obtain ⟨b1, o1, rfl, y1, -⟩ := hs1.num_at (k := 0) rfl
  obtain ⟨b2, o2, rfl, y2, -⟩ := Sl.i64_at hs2 (k := 0) rfl
  rw [Nat.add_zero] at y1 y2
  have HX1 := hid (HE0.out.trans (((Ext.refl _).alloc _).trans hx1))
  have HB1 := hid (HB0.out.ext (((Ext.refl _).alloc _).trans hx1))
  have HS1 := hid hs1
  have HY := hid (And.intro y1 y2)
  have hcap := hs1.cap
  have hcap1 := hcap.1
  have hcap2 := hcap.2
  have hcaq := hs2.cap
  have hcaq1 := hcaq.1
  have hcaq2 := hcaq.2
  clear hx1 hs1 hs2 hl1 y1 y2 hW0 hcap hcaq
  obtain ⟨W2, hW2⟩ : ∃ W2, w1.alloc (.cells #[.slice (some ⟨b1, o1, none⟩) 1 c1, .slice (some ⟨b2, o2, none⟩) 1 c2] 31) = W2 := ⟨_, rfl⟩
  have hE2 : Ext w1 W2 := by rw [← hW2]; exact (Ext.refl w1).alloc _
  have z0 : W2.cell? ⟨w1.heap.size, 0, none⟩ = some (.slice (some ⟨b1, o1, none⟩) 1 c1) := by rw [← hW2]; simp [go_sem]
  have z1 : W2.cell? ⟨w1.heap.size, 1, none⟩ = some (.slice (some ⟨b2, o2, none⟩) 1 c2) := by rw [← hW2]; simp [go_sem]
  have HX2 := hid (HX1.out.trans hE2)
  have HB2 := hid (HB1.out.ext hE2)
  have HS2 := hid (HS1.out.ext hE2)
  have HZ := hid (And.intro z0 (And.intro z1 (And.intro (hE2.cell HY.out.1) (hE2.cell HY.out.2))))
  clear hE2 z0 z1 HX1 HB1 HS1 HY
  go_wp2_with fail
  refine (inputs_any W2 1 (by omega) 4 2 (by omega)).mono ?_
  rintro e w3 ⟨hx3, A3, c3, rfl, hs3⟩
  rw [ex_inputs] at hs3 ⊢
  obtain ⟨bi, oi, A32, c32, rfl, q2, hi2⟩ := Sl_ss_at hs3 (k := 2) rfl
  obtain ⟨bi', oi', A33, c33, hA, q3, hi3⟩ := Sl_ss_at hs3 (k := 3) rfl
  cases hA
  have hl3 : ([[0, 0], [4294967295, 4294967295], [0, 1], [12, 219]] : List (List Nat)).length = 4 := rfl
  have hcap := hs3.cap
  rw [hl3] at hcap ⊢
  have hcap31 := hcap.1
  have hcap32 := hcap.2
  have HX3 := hid (HX2.out.trans hx3)
  have HB3 := hid (HB2.out.ext hx3)
  have HS3 := hid (HS2.out.ext hx3)
  have HZ3 := hid (And.intro (hx3.cell HZ.out.1) (And.intro (hx3.cell HZ.out.2.1) (And.intro (hx3.cell HZ.out.2.2.1) (hx3.cell HZ.out.2.2.2))))
  have HQ := hid (And.intro q2 q3)
  have HI2 := hid hi2
  have HI3 := hid hi3
  clear hx3 hs3 q2 q3 hi2 hi3 hl3 hcap hW2 HX2 HB2 HS2 HZ
  have L4 := hid (sl_lit w3 [3, 20, 9] (by decide) (by simp [maxLen]) 36)
  go_wp2_with fail
  refine (minimize_any none _ 33 #[] _ _ exFails _ _ 3 3 [3, 20, 9] (L4.out.mono (fun _ _ _ => fun h => by cases h)) (by omega) trivial).mono ?_
  rintro e w5 ⟨hg5, -, A5, c5, rfl, hs5⟩
  have hx5 : Ext w3 w5 := (((Ext.refl w3).alloc _).grown hg5 (fun k h => by cases h))
  rw [ex_min] at hs5 ⊢
  have HX5 := hid (HX3.out.trans hx5)
  have HB5 := hid (HB3.out.ext hx5)
  have HS5 := hid (HS3.out.ext hx5)
  have HM5 := hid hs5.all
  have HI25 := hid (HI2.out.ext hx5)
  have HI35 := hid (HI3.out.ext hx5)
  have z0 := hx5.cell HZ3.out.1
  have z1 := hx5.cell HZ3.out.2.1
  have y1 := hx5.cell HZ3.out.2.2.1
  have y2 := hx5.cell HZ3.out.2.2.2
  have HQ5 := hid (And.intro (hx5.cell HQ.out.1) (hx5.cell HQ.out.2))
  clear hg5 hs5 hx5 HX3 HB3 HS3 HI2 HI3 HZ3 HQ L4
  go_wp2_with fail
  refine (missed_any w5 _ _ _ 2 2 1 c1 1 c2 [4096, 4112] [4096] HB5.out HS5.out (by omega) (by omega)).mono ?_
  rintro e w6 ⟨hx6, A6, c6, rfl, hs6⟩
  rw [ex_missed] at hs6 ⊢
  have HS6 := hid hs6
  have HX6 := hid hx6
  clear hs6 hx6 z0 z1 y1 y2
  have L7 := hid (sl_lit w6 [4112] (by decide) (by simp [maxLen]) 36)
  go_wp2_with fail
  refine (words_any _ _ (Ext.refl _) A6 _ 1 1 c6 1 [4112] [4112] (HS6.out.ext ((Ext.refl _).alloc _)) L7.out).mono ?_
  rintro e w7 ⟨rfl, hx7⟩
  rw [show decide (([4112] : List Nat) = [4112]) = true from rfl]
  have HX7 := hid (HX6.out.trans (((Ext.refl w6).alloc _).trans hx7))
  clear hx7 HX6 HS6 L7
  have q2 := HX7.out.cell HQ5.out.1
  have L8 := hid (sl_lit w7 [0, 1] (by decide) (by simp [maxLen]) 36)
  go_wp2_with fail
  refine (words_any _ _ (Ext.refl _) A32 _ 2 2 c32 2 [0, 1] [0, 1] ((HI25.out.ext HX7.out).ext ((Ext.refl _).alloc _)) L8.out).mono ?_
  rintro e w8 ⟨rfl, hx8⟩
  rw [show decide (([0, 1] : List Nat) = [0, 1]) = true from rfl]
  have HX8 := hid (HX7.out.trans (((Ext.refl w7).alloc _).trans hx8))
  clear hx8 HX7 L8 q2
  have q3 := HX8.out.cell HQ5.out.2
  have L9 := hid (sl_lit w8 [12, 219] (by decide) (by simp [maxLen]) 36)
  go_wp2_with fail
  refine (words_any _ _ (Ext.refl _) A33 _ 2 2 c33 2 [12, 219] [12, 219] ((HI35.out.ext HX8.out).ext ((Ext.refl _).alloc _)) L9.out).mono ?_
  rintro e w9 ⟨rfl, hx9⟩
  rw [show decide (([12, 219] : List Nat) = [12, 219]) = true from rfl]
  have HX9 := hid (HX8.out.trans (((Ext.refl w8).alloc _).trans hx9))
  clear hx9 HX8 L9 q3
  have L10 := hid (sl_lit w9 [9] (by decide) (by simp [maxLen]) 36)
  go_wp2_with fail
  refine (words_any _ _ (Ext.refl _) A5 _ 1 1 c5 1 [9] [9] ((HM5.out.ext HX9.out).ext ((Ext.refl _).alloc _)) L10.out).mono ?_
  rintro e w10 ⟨rfl, hx10⟩
  rw [show decide (([9] : List Nat) = [9]) = true from rfl]
  have HX10 := hid (HX5.out.trans (HX9.out.trans (((Ext.refl w9).alloc _).trans hx10)))
  clear hx10 HX9 L10
  go_wp2
  go_ret
  exact ⟨by simp, HX10.out⟩
end Go.Proofs.Ytcddmggefmfkkaa
