/- isa: opcode. -/
import Derived.Test.YtolbnhkdpbdhhaaIsaB
namespace Go.Proofs.Ytolbnhkdpbdhhaa
open Go.RowKit Go.Deco
set_option linter.unusedSimpArgs false
set_option linter.unusedVariables false

set_option maxRecDepth 100000 in
set_option maxHeartbeats 8000000 in
theorem opcode_any (w : World) (i : In) : Calls Try.prog 87 #[inV i] w (ShapeIs w (opShape i)) := by
  obtain ⟨W0, hW0⟩ : ∃ W0, w.alloc (.cells #[.int .u32 i.addr, .int .u32 i.imm, .int .i64 i.op, .int .i64 i.form, .int .i64 i.width, .int .i64 i.cc, .int .i64 i.a, .int .i64 i.b, .int .i64 i.size] 61) = W0 := ⟨_, rfl⟩
  have hE : Ext w W0 := by rw [← hW0]; exact (Ext.refl w).alloc _
  have hB : Box9 W0 w.heap.size i := by rw [← hW0]; exact Box9.new w i _
  obtain ⟨o, hO⟩ : ∃ o, opShape i = o := ⟨_, rfl⟩
  have HO := hid hO
  rw [hO]
  have HE := hid hE
  have HC := hid hB
  obtain ⟨c0, c1, c2, c3, c4, c5, c6, c7, c8⟩ := hB
  clear hE hO
  unfold inV
  obtain ⟨ad, im, op, fo, wd, cc, a, b, sz⟩ := i
  dsimp only at HO c0 c1 c2 c3 c4 c5 c6 c7 c8 ⊢
  clear HC
  go_enter Try.func87, Try.ntmps87
  by_cases z0 : op = 0
  case pos =>
    subst z0
    have HO2 : Hid (o = some 0) := hid (by have := HO.out; rw [← this]; simp [opShape, *])
    go_wp2
    obtain rfl := HO2.out
    go_ret3
    exact ⟨HE.out, _, 0, rfl, by simp⟩
  have n0 : (op == 0) = false := by simpa using z0
  by_cases z1 : op = 1
  case pos =>
    subst z1
    have HO2 : Hid (o = some 0) := hid (by have := HO.out; rw [← this]; simp [opShape, *])
    go_wp2
    obtain rfl := HO2.out
    go_ret3
    exact ⟨HE.out, _, 0, rfl, by simp⟩
  have n1 : (op == 1) = false := by simpa using z1
  by_cases z2 : op = 2
  case pos =>
    subst z2
    have HO2 : Hid (o = some 0) := hid (by have := HO.out; rw [← this]; simp [opShape, *])
    go_wp2
    obtain rfl := HO2.out
    go_ret3
    exact ⟨HE.out, _, 0, rfl, by simp⟩
  have n2 : (op == 2) = false := by simpa using z2
  by_cases z3 : op = 3
  case pos =>
    subst z3
    have HO2 : Hid (o = some 1) := hid (by have := HO.out; rw [← this]; simp [opShape, *])
    go_wp2
    obtain rfl := HO2.out
    go_ret3
    exact ⟨HE.out, _, 1, rfl, by simp⟩
  have n3 : (op == 3) = false := by simpa using z3
  by_cases z4 : op = 4
  case pos =>
    subst z4
    have HO2 : Hid (o = some 1) := hid (by have := HO.out; rw [← this]; simp [opShape, *])
    go_wp2
    obtain rfl := HO2.out
    go_ret3
    exact ⟨HE.out, _, 1, rfl, by simp⟩
  have n4 : (op == 4) = false := by simpa using z4
  by_cases h5 : 5 ≤ op ∧ op ≤ 15
  case pos =>
    obtain ⟨h5, h15⟩ := h5
    by_cases f0 : fo = 0
    · subst f0
      have HO2 : Hid (o = some 3) := hid (by have := HO.out; rw [← this]; simp [opShape, *])
      go_wp2
      obtain rfl := HO2.out
      go_ret3
      exact ⟨HE.out, _, 3, rfl, by simp⟩
    have m0 : (fo == 0) = false := by simpa using f0
    by_cases f1 : fo = 1
    · subst f1
      have HO2 : Hid (o = some 4) := hid (by have := HO.out; rw [← this]; simp [opShape, *])
      go_wp2
      obtain rfl := HO2.out
      go_ret3
      exact ⟨HE.out, _, 4, rfl, by simp⟩
    have m1 : (fo == 1) = false := by simpa using f1
    by_cases f2 : fo = 2
    · subst f2
      have HO2 : Hid (o = some 6) := hid (by have := HO.out; rw [← this]; simp [opShape, *])
      go_wp2
      obtain rfl := HO2.out
      go_ret3
      exact ⟨HE.out, _, 6, rfl, by simp⟩
    have m2 : (fo == 2) = false := by simpa using f2
    have HO2 : Hid (o = none) := hid (by have := HO.out; rw [← this]; simp [opShape, *])
    go_wp2
    obtain rfl := HO2.out
    go_ret3
    exact ⟨HE.out, _, 0, rfl, by simp⟩
  by_cases z19 : op = 19
  case pos =>
    subst z19
    have HO2 : Hid (o = some 5) := hid (by have := HO.out; rw [← this]; simp [opShape, *])
    go_wp2
    obtain rfl := HO2.out
    go_ret3
    exact ⟨HE.out, _, 5, rfl, by simp⟩
  have n19 : (op == 19) = false := by simpa using z19
  by_cases z23 : op = 23
  case pos =>
    subst z23
    have HO2 : Hid (o = some 8) := hid (by have := HO.out; rw [← this]; simp [opShape, *])
    go_wp2
    obtain rfl := HO2.out
    go_ret3
    exact ⟨HE.out, _, 8, rfl, by simp⟩
  have n23 : (op == 23) = false := by simpa using z23
  by_cases z24 : op = 24
  case pos =>
    subst z24
    have HO2 : Hid (o = some 2) := hid (by have := HO.out; rw [← this]; simp [opShape, *])
    go_wp2
    obtain rfl := HO2.out
    go_ret3
    exact ⟨HE.out, _, 2, rfl, by simp⟩
  have n24 : (op == 24) = false := by simpa using z24
  by_cases z21 : op = 21
  case pos =>
    subst z21
    have HO2 : Hid (o = some 2) := hid (by have := HO.out; rw [← this]; simp [opShape, *])
    go_wp2
    obtain rfl := HO2.out
    go_ret3
    exact ⟨HE.out, _, 2, rfl, by simp⟩
  have n21 : (op == 21) = false := by simpa using z21
  by_cases z22 : op = 22
  case pos =>
    subst z22
    have HO2 : Hid (o = some 6) := hid (by have := HO.out; rw [← this]; simp [opShape, *])
    go_wp2
    obtain rfl := HO2.out
    go_ret3
    exact ⟨HE.out, _, 6, rfl, by simp⟩
  have n22 : (op == 22) = false := by simpa using z22
  by_cases z26 : op = 26
  case pos =>
    subst z26
    have HO2 : Hid (o = some 2) := hid (by have := HO.out; rw [← this]; simp [opShape, *])
    go_wp2
    obtain rfl := HO2.out
    go_ret3
    exact ⟨HE.out, _, 2, rfl, by simp⟩
  have n26 : (op == 26) = false := by simpa using z26
  by_cases z27 : op = 27
  case pos =>
    subst z27
    have HO2 : Hid (o = some 2) := hid (by have := HO.out; rw [← this]; simp [opShape, *])
    go_wp2
    obtain rfl := HO2.out
    go_ret3
    exact ⟨HE.out, _, 2, rfl, by simp⟩
  have n27 : (op == 27) = false := by simpa using z27
  by_cases z16 : op = 16
  case pos =>
    subst z16
    go_wp2_with fail
    have hc := access_any W0 ⟨ad, im, 16, fo, wd, cc, a, b, sz⟩ (by simp)
    rw [HO.out] at hc
    refine hc.mono ?_
    rintro e w1 ⟨hx, c, s, rfl, hs⟩
    have HX := hid (HE.out.trans hx)
    have HSS := hid hs
    clear hx hs hc
    obtain ⟨ob, hob⟩ : ∃ ob, o.isSome = ob := ⟨_, rfl⟩
    have HOB := hid hob
    rw [hob]
    clear hob c0 c1 c2 c3 c4 c5 c6 c7 c8
    go_wp2
    go_ret3
    obtain rfl := HOB.out
    exact ⟨HX.out, c, s, rfl, HSS.out⟩
  have n16 : (op == 16) = false := by simpa using z16
  by_cases z17 : op = 17
  case pos =>
    subst z17
    go_wp2_with fail
    have hc := access_any W0 ⟨ad, im, 17, fo, wd, cc, a, b, sz⟩ (by simp)
    rw [HO.out] at hc
    refine hc.mono ?_
    rintro e w1 ⟨hx, c, s, rfl, hs⟩
    have HX := hid (HE.out.trans hx)
    have HSS := hid hs
    clear hx hs hc
    obtain ⟨ob, hob⟩ : ∃ ob, o.isSome = ob := ⟨_, rfl⟩
    have HOB := hid hob
    rw [hob]
    clear hob c0 c1 c2 c3 c4 c5 c6 c7 c8
    go_wp2
    go_ret3
    obtain rfl := HOB.out
    exact ⟨HX.out, c, s, rfl, HSS.out⟩
  have n17 : (op == 17) = false := by simpa using z17
  by_cases z18 : op = 18
  case pos =>
    subst z18
    go_wp2_with fail
    have hc := access_any W0 ⟨ad, im, 18, fo, wd, cc, a, b, sz⟩ (by simp)
    rw [HO.out] at hc
    refine hc.mono ?_
    rintro e w1 ⟨hx, c, s, rfl, hs⟩
    have HX := hid (HE.out.trans hx)
    have HSS := hid hs
    clear hx hs hc
    obtain ⟨ob, hob⟩ : ∃ ob, o.isSome = ob := ⟨_, rfl⟩
    have HOB := hid hob
    rw [hob]
    clear hob c0 c1 c2 c3 c4 c5 c6 c7 c8
    go_wp2
    go_ret3
    obtain rfl := HOB.out
    exact ⟨HX.out, c, s, rfl, HSS.out⟩
  have n18 : (op == 18) = false := by simpa using z18
  by_cases z20 : op = 20
  case pos =>
    subst z20
    go_wp2_with fail
    have hc := cond_any W0 ⟨ad, im, 20, fo, wd, cc, a, b, sz⟩ (by simp)
    rw [HO.out] at hc
    refine hc.mono ?_
    rintro e w1 ⟨hx, c, s, rfl, hs⟩
    have HX := hid (HE.out.trans hx)
    have HSS := hid hs
    clear hx hs hc
    obtain ⟨ob, hob⟩ : ∃ ob, o.isSome = ob := ⟨_, rfl⟩
    have HOB := hid hob
    rw [hob]
    clear hob c0 c1 c2 c3 c4 c5 c6 c7 c8
    go_wp2
    go_ret3
    obtain rfl := HOB.out
    exact ⟨HX.out, c, s, rfl, HSS.out⟩
  have n20 : (op == 20) = false := by simpa using z20
  by_cases z25 : op = 25
  case pos =>
    subst z25
    go_wp2_with fail
    have hc := cond_any W0 ⟨ad, im, 25, fo, wd, cc, a, b, sz⟩ (by simp)
    rw [HO.out] at hc
    refine hc.mono ?_
    rintro e w1 ⟨hx, c, s, rfl, hs⟩
    have HX := hid (HE.out.trans hx)
    have HSS := hid hs
    clear hx hs hc
    obtain ⟨ob, hob⟩ : ∃ ob, o.isSome = ob := ⟨_, rfl⟩
    have HOB := hid hob
    rw [hob]
    clear hob c0 c1 c2 c3 c4 c5 c6 c7 c8
    go_wp2
    go_ret3
    obtain rfl := HOB.out
    exact ⟨HX.out, c, s, rfl, HSS.out⟩
  have n25 : (op == 25) = false := by simpa using z25
  by_cases g5 : 5 ≤ op
  · have g15 : ¬ op ≤ 15 := fun h => h5 ⟨g5, h⟩
    clear h5
    have HO2 : Hid (o = none) := hid (by have := HO.out; rw [← this]; simp [opShape, *])
    go_wp2
    obtain rfl := HO2.out
    go_ret3
    exact ⟨HE.out, _, 0, rfl, by simp⟩
  · clear h5
    have HO2 : Hid (o = none) := hid (by have := HO.out; rw [← this]; simp [opShape, *])
    go_wp2
    obtain rfl := HO2.out
    go_ret3
    exact ⟨HE.out, _, 0, rfl, by simp⟩
end Go.Proofs.Ytolbnhkdpbdhhaa
