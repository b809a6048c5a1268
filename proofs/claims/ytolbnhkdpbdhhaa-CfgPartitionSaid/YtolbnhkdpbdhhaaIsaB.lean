/- isa: conditional, opcode. -/
import Derived.Test.YtolbnhkdpbdhhaaIsaA
namespace Go.Proofs.Ytolbnhkdpbdhhaa
open Go.RowKit Go.Deco
set_option linter.unusedSimpArgs false
set_option linter.unusedVariables false

set_option maxRecDepth 100000 in
set_option maxHeartbeats 4000000 in
theorem cond_any (w : World) (i : In) (ho : i.op = 20 ∨ i.op = 25) : Calls Try.prog 106 #[inV i] w (ShapeIs w (opShape i)) := by
  obtain ⟨W0, hW0⟩ : ∃ W0, w.alloc (.cells #[.int .u32 i.addr, .int .u32 i.imm, .int .i64 i.op, .int .i64 i.form, .int .i64 i.width, .int .i64 i.cc, .int .i64 i.a, .int .i64 i.b, .int .i64 i.size] 61) = W0 := ⟨_, rfl⟩
  have hE : Ext w W0 := by rw [← hW0]; exact (Ext.refl w).alloc _
  have hB : Box9 W0 w.heap.size i := by rw [← hW0]; exact Box9.new w i _
  obtain ⟨o, hO⟩ : ∃ o, opShape i = o := ⟨_, rfl⟩
  have HO := hid hO
  rw [hO]
  have HE := hid hE
  obtain ⟨c0, c1, c2, c3, c4, c5, c6, c7, c8⟩ := hB
  clear hE hO
  unfold inV
  obtain ⟨ad, im, op, fo, wd, cc, a, b, sz⟩ := i
  dsimp only at ho HO c0 c1 c2 c3 c4 c5 c6 c7 c8 ⊢
  clear c0 c1 c4 c6 c7 c8
  go_enter Try.func106, Try.ntmps106
  by_cases h1 : cc < 0
  · have HO2 : Hid (o = none) := hid (by have := HO.out; rw [← this]; rcases ho with rfl | rfl <;> simp [opShape, h1])
    go_wp2
    obtain rfl := HO2.out
    go_ret3
    exact ⟨HE.out, _, 0, rfl, by simp⟩
  · by_cases h2 : 14 < cc
    · have HO2 : Hid (o = none) := hid (by have := HO.out; rw [← this]; rcases ho with rfl | rfl <;> simp [opShape, h2])
      go_wp2
      obtain rfl := HO2.out
      go_ret3
      exact ⟨HE.out, _, 0, rfl, by simp⟩
    · rcases ho with rfl | rfl
      · by_cases h3 : fo = 1
        · subst h3
          have HO2 : Hid (o = some 7) := hid (by have := HO.out; rw [← this]; simp [opShape]; omega)
          go_wp2
          obtain rfl := HO2.out
          go_ret3
          exact ⟨HE.out, _, 7, rfl, by simp⟩
        · have n3 : (fo == 1) = false := by simpa using h3
          by_cases h4 : fo = 2
          · subst h4
            have HO2 : Hid (o = some 8) := hid (by have := HO.out; rw [← this]; simp [opShape]; omega)
            go_wp2
            obtain rfl := HO2.out
            go_ret3
            exact ⟨HE.out, _, 8, rfl, by simp⟩
          · have n4 : (fo == 2) = false := by simpa using h4
            have HO2 : Hid (o = none) := hid (by have := HO.out; rw [← this]; simp [opShape, h3, h4])
            go_wp2
            obtain rfl := HO2.out
            go_ret3
            exact ⟨HE.out, _, 0, rfl, by simp⟩
      · have HO2 : Hid (o = some 2) := hid (by have := HO.out; rw [← this]; simp [opShape]; omega)
        go_wp2
        obtain rfl := HO2.out
        go_ret3
        exact ⟨HE.out, _, 2, rfl, by simp⟩
end Go.Proofs.Ytolbnhkdpbdhhaa
