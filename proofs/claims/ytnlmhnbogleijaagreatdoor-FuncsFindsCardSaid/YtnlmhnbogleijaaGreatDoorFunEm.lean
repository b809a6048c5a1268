/- The example of the chapter on functions; few. -/
import Derived.Test.YtnlmhnbogleijaaGreatDoorFunDm
import Derived.Test.YtnlmhnbogleijaaGreatDoorLawB
import Derived.Test.YtnlmhnbogleijaaGreatDoorLasm
namespace Go.Proofs.YtnlmhnbogleijaaGreatDoor
open Go.RowKit Go.Deco
set_option linter.unusedSimpArgs false
set_option linter.unusedVariables false

def exFns : List Fn18 := [⟨1, ⟨#[]⟩, [], [2, 3], false⟩, ⟨2, ⟨#[]⟩, [], [1], false⟩, ⟨3, ⟨#[]⟩, [3], [], false⟩]
theorem ex_entries : entriesOf exFns = [1, 2, 3] := by decide +kernel
theorem ex_c1 : calleesOf exFns 1 = [2, 3] := by decide +kernel
theorem ex_c2 : calleesOf exFns 2 = [1] := by decide +kernel
theorem ex_c3 : calleesOf exFns 3 = [] := by decide +kernel
theorem ex_callers : callersOf exFns 1 = [2] := by decide +kernel
theorem ex_order (B : Nat → Nat → Bool) (hB : ∀ a b, B a b = true ↔ Reach exFns a b) : orderOf (entriesOf exFns) B = [[3], [1, 2]] := by
  have s12 : Reach exFns 1 2 := .step (.refl 1) (by rw [ex_c1]; simp)
  have s13 : Reach exFns 1 3 := .step (.refl 1) (by rw [ex_c1]; simp)
  have s21 : Reach exFns 2 1 := .step (.refl 2) (by rw [ex_c2]; simp)
  have h3 : ∀ b, Reach exFns 3 b → b = 3 := fun b h => h.closed (S := fun x => x = 3) rfl fun x hx c hc => by
    subst hx
    rw [ex_c3] at hc
    simp at hc
  have n31 : B 3 1 = false := by
    cases h : B 3 1 with
    | false => rfl
    | true => exact absurd (h3 _ ((hB _ _).1 h)) (by simp)
  have n32 : B 3 2 = false := by
    cases h : B 3 2 with
    | false => rfl
    | true => exact absurd (h3 _ ((hB _ _).1 h)) (by simp)
  have b11 := (hB _ _).2 (Reach.refl (l := exFns) 1)
  have b22 := (hB _ _).2 (Reach.refl (l := exFns) 2)
  have b33 := (hB _ _).2 (Reach.refl (l := exFns) 3)
  have b12 := (hB _ _).2 s12
  have b13 := (hB _ _).2 s13
  have b21 := (hB _ _).2 s21
  have b23 := (hB _ _).2 (s21.trans s13)
  rw [ex_entries]
  simp [orderOf, orderN, stepO, compOf, readyB, listedB, n31, n32, b11, b22, b33, b12, b13, b21, b23]

/-- The example's list in memory. -/
theorem ex_fns (w : World) (t1 t2 t3 t4 : TypeId) : Sl fnR ((((w.alloc (.cells #[.int .u32 2, .int .u32 3] t1)).alloc (.cells #[.int .u32 1] t2)).alloc (.cells #[.int .u32 3] t3)).alloc
      (.cells #[.int .u32 1, .string ⟨#[]⟩, .slice none 0 0, .slice (some ⟨w.heap.size, 0, none⟩) 2 2, .bool false, .int .u32 2, .string ⟨#[]⟩, .slice none 0 0, .slice (some ⟨w.heap.size + 1, 0, none⟩) 1 1, .bool false,
        .int .u32 3, .string ⟨#[]⟩, .slice (some ⟨w.heap.size + 1 + 1, 0, none⟩) 1 1, .slice none 0 0, .bool false] t4)) All (.slice (some ⟨w.heap.size + 1 + 1 + 1, 0, none⟩) 3 3) exFns := by
  have h1 := sl_lit w [2, 3] (by decide) (by simp [maxLen]) t1
  have h2 := sl_lit (w.alloc (.cells #[.int .u32 2, .int .u32 3] t1)) [1] (by decide) (by simp [maxLen]) t2
  have h3 := sl_lit ((w.alloc (.cells #[.int .u32 2, .int .u32 3] t1)).alloc (.cells #[.int .u32 1] t2)) [3] (by decide) (by simp [maxLen]) t3
  have e2 : (w.alloc (.cells #[.int .u32 2, .int .u32 3] t1)).heap.size = w.heap.size + 1 := by simp
  have e3 : ((w.alloc (.cells #[.int .u32 2, .int .u32 3] t1)).alloc (.cells #[.int .u32 1] t2)).heap.size = w.heap.size + 1 + 1 := by simp
  have e4 : (((w.alloc (.cells #[.int .u32 2, .int .u32 3] t1)).alloc (.cells #[.int .u32 1] t2)).alloc (.cells #[.int .u32 3] t3)).heap.size = w.heap.size + 1 + 1 + 1 := by simp
  rw [e2] at h2
  rw [e3] at h3
  rw [← e4]
  refine sl_of_chunks (R := fnR) (l := exFns) (c := 3) (xs := [.int .u32 1, .string ⟨#[]⟩, .slice none 0 0, .slice (some ⟨w.heap.size, 0, none⟩) 2 2, .bool false, .int .u32 2, .string ⟨#[]⟩, .slice none 0 0, .slice (some ⟨w.heap.size + 1, 0, none⟩) 1 1, .bool false,
        .int .u32 3, .string ⟨#[]⟩, .slice (some ⟨w.heap.size + 1 + 1, 0, none⟩) 1 1, .slice none 0 0, .bool false]) trivial ?_ (fun j u hu => ?_) (by simp [exFns]) (by simp [maxLen])
  · refine ⟨[.int .u32 1, .string ⟨#[]⟩, .slice none 0 0, .slice (some ⟨w.heap.size, 0, none⟩) 2 2, .bool false], _, rfl, ⟨_, _, rfl, Sl.nil, ?_, by decide, by simp [maxLen, ByteArray.size]⟩, ?_⟩
    · exact ((h1.ext ((Ext.refl _).alloc _)).ext ((Ext.refl _).alloc _)).ext ((Ext.refl _).alloc _)
    refine ⟨[.int .u32 2, .string ⟨#[]⟩, .slice none 0 0, .slice (some ⟨w.heap.size + 1, 0, none⟩) 1 1, .bool false], _, rfl, ⟨_, _, rfl, Sl.nil, ?_, by decide, by simp [maxLen, ByteArray.size]⟩, ?_⟩
    · exact (h2.ext ((Ext.refl _).alloc _)).ext ((Ext.refl _).alloc _)
    refine ⟨[.int .u32 3, .string ⟨#[]⟩, .slice (some ⟨w.heap.size + 1 + 1, 0, none⟩) 1 1, .slice none 0 0, .bool false], [], rfl, ⟨_, _, rfl, ?_, Sl.nil, by decide, by simp [maxLen, ByteArray.size]⟩, rfl⟩
    exact h3.ext ((Ext.refl _).alloc _)
  · rw [Nat.zero_add, World.cell?_alloc_new]
    simpa using hu

set_option maxRecDepth 100000 in
set_option maxHeartbeats 4000000 in
theorem example_any (w : World) : Calls Tryz.prog 6 #[] w (OneBool w true) := by
  obtain ⟨B, hB⟩ : ∃ B : Nat → Nat → Bool, ∀ a b, B a b = true ↔ Reach exFns a b := ⟨fun a b => @decide (Reach exFns a b) (Classical.propDecidable _), fun a b => @decide_eq_true_iff _ (Classical.propDecidable _)⟩
  have hsl := ex_fns w 38 38 38 40
  have hO := ex_order B hB
  have hcl : ∀ f ∈ exFns, f.calls.length ≤ 1000 := by decide
  have HB := hid hB; clear hB
  have HC := hid hcl; clear hcl
  have HO := hid hO; clear hO
  obtain ⟨W0, hW0⟩ : ∃ W0, (((w.alloc (Obj.cells #[.int .u32 2, .int .u32 3] 38)).alloc (.cells #[.int .u32 1] 38)).alloc (.cells #[.int .u32 3] 38)).alloc
      (.cells #[.int .u32 1, .string ⟨#[]⟩, .slice none 0 0, .slice (some ⟨w.heap.size, 0, none⟩) 2 2, .bool false, .int .u32 2, .string ⟨#[]⟩, .slice none 0 0, .slice (some ⟨w.heap.size + 1, 0, none⟩) 1 1, .bool false,
        .int .u32 3, .string ⟨#[]⟩, .slice (some ⟨w.heap.size + 1 + 1, 0, none⟩) 1 1, .slice none 0 0, .bool false] 40) = W0 := ⟨_, rfl⟩
  rw [hW0] at hsl
  have hE : Ext w W0 := by rw [← hW0]; exact ((((Ext.refl w).alloc _).alloc _).alloc _).alloc _
  have HE := hid hE; clear hE
  have HS := hid hsl; clear hsl
  go_enter Tryz.func6, Tryz.ntmps6
  go_wp2_with fail
  refine (order_any W0 _ 3 3 exFns HS.out (by omega) HC.out B HB.out).mono ?_
  rintro e w1 ⟨hx1, oA, oc, rfl, hs1⟩
  rw [HO.out] at hs1 ⊢
  obtain ⟨b, off, A0, c0, rfl, q0, hs3⟩ := Sl_ss_at hs1 (k := 0) rfl
  obtain ⟨b', off', A1, c1, hA, q1, hs4⟩ := Sl_ss_at hs1 (k := 1) rfl
  cases hA
  rw [Nat.add_zero] at q0
  have HX1 := hid (HE.out.trans hx1)
  have HW1 := hid hx1
  have HS3 := hid hs3
  have HS4 := hid hs4
  have hcap := hs1.cap
  have hcap1 := hcap.1
  have hcap2 := hcap.2
  have Q0 := hid q0
  have Q1 := hid q1
  have hlen : ([[3], [1, 2]] : List (List Nat)).length = 2 := rfl
  rw [hlen] at hcap1 ⊢
  clear hx1 hs1 hs3 hs4 hcap hW0 q1 hlen
  have l3 : Sl u32R (w1.alloc (Obj.cells #[.int .u32 3] 38)) All (.slice (some ⟨w1.heap.size, 0, none⟩) 1 1) [3] := sl_lit w1 [3] (by decide) (by simp [maxLen]) 38
  have L3 := hid l3; clear l3
  go_wp2_with fail
  refine (words_any _ _ (Ext.refl _) A0 _ 1 1 c0 1 [3] [3] (HS3.out.ext ((Ext.refl _).alloc _)) L3.out).mono ?_
  rintro e w2 ⟨rfl, hx2⟩
  have hd3 : decide (([3] : List Nat) = [3]) = true := rfl
  rw [hd3]
  have HX2 := hid (((Ext.refl w1).alloc _).trans hx2)
  clear hx2 hd3 q0
  have q1 := HX2.out.cell Q1.out
  have l4 : Sl u32R (w2.alloc (Obj.cells #[.int .u32 1, .int .u32 2] 38)) All (.slice (some ⟨w2.heap.size, 0, none⟩) 2 2) [1, 2] := sl_lit w2 [1, 2] (by decide) (by simp [maxLen]) 38
  have L4 := hid l4; clear l4
  go_wp2_with fail
  refine (words_any _ _ (Ext.refl _) A1 _ 2 2 c1 2 [1, 2] [1, 2] ((HS4.out.ext HX2.out).ext ((Ext.refl _).alloc _)) L4.out).mono ?_
  rintro e w3 ⟨rfl, hx3⟩
  have hd3 : decide (([1, 2] : List Nat) = [1, 2]) = true := rfl
  rw [hd3]
  have HX3 := hid (HX2.out.trans (((Ext.refl w2).alloc _).trans hx3))
  clear hx3 hd3 q1
  go_wp2_with fail
  refine (callees_any W0 w3 (HW1.out.trans HX3.out) _ 3 3 exFns HS.out (by omega) HC.out 1).mono ?_
  rintro e w4 ⟨hx4, A4, c4, rfl, hs5⟩
  rw [ex_c1] at hs5 ⊢
  have HX4 := hid (HX3.out.trans hx4)
  have HS5 := hid hs5
  clear hx4 hs5
  have l5 : Sl u32R (w4.alloc (Obj.cells #[.int .u32 2, .int .u32 3] 38)) All (.slice (some ⟨w4.heap.size, 0, none⟩) 2 2) [2, 3] := sl_lit w4 [2, 3] (by decide) (by simp [maxLen]) 38
  have L5 := hid l5; clear l5
  go_wp2_with fail
  refine (words_any _ _ (Ext.refl _) A4 _ 2 2 c4 2 [2, 3] [2, 3] (HS5.out.ext ((Ext.refl _).alloc _)) L5.out).mono ?_
  rintro e w5 ⟨rfl, hx5⟩
  have hd3 : decide (([2, 3] : List Nat) = [2, 3]) = true := rfl
  rw [hd3]
  have HX5 := hid (HX4.out.trans (((Ext.refl w4).alloc _).trans hx5))
  clear hx5 hd3
  go_wp2_with fail
  refine (callers_any W0 w5 (HW1.out.trans HX5.out) _ 3 3 exFns HS.out (by omega) HC.out 1).mono ?_
  rintro e w6 ⟨hx6, A6, c6, rfl, hs6⟩
  rw [ex_callers] at hs6 ⊢
  have HX6 := hid (HX5.out.trans hx6)
  have HS6 := hid hs6
  clear hx6 hs6
  have l6 : Sl u32R (w6.alloc (Obj.cells #[.int .u32 2] 38)) All (.slice (some ⟨w6.heap.size, 0, none⟩) 1 1) [2] := sl_lit w6 [2] (by decide) (by simp [maxLen]) 38
  have L6 := hid l6; clear l6
  go_wp2_with fail
  refine (words_any _ _ (Ext.refl _) A6 _ 1 1 c6 1 [2] [2] (HS6.out.ext ((Ext.refl _).alloc _)) L6.out).mono ?_
  rintro e w7 ⟨rfl, hx7⟩
  have hd3 : decide (([2] : List Nat) = [2]) = true := rfl
  rw [hd3]
  have HX7 := hid (HX1.out.trans (HX6.out.trans (((Ext.refl w6).alloc _).trans hx7)))
  clear hx7 hd3
  go_wp2
  go_ret
  exact ⟨rfl, HX7.out⟩

/-! ### few -/
def FewPost (w : World) (n : Nat) (l : List Fn18) (e : Ending) (w' : World) : Prop := (∃ b, e = .returned (.bool b) ∧ (b = true → n ≤ 10 ∧ ∀ f ∈ l, f.blocks.length ≤ 12 ∧ f.calls.length ≤ 12)) ∧ w = w'
end Go.Proofs.YtnlmhnbogleijaaGreatDoor
