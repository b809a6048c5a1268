/- isa: register, narrow, size, access, conditional, opcode. -/
import Derived.Test.YtolbnhkdpbdhhaaRows
import Derived.Test.YtolbnhkdpbdhhaaIsaL
import Derived.Test.YtolbnhkdpbdhhaaMap
import Derived.Lib.Hide
import Derived.Deep.QuietTactic
import Derived.ChangeKeysEq
import Derived.Laws.StructEq
namespace Go.Proofs.Ytolbnhkdpbdhhaa
open Go.RowKit Go.Deco
set_option linter.unusedSimpArgs false
set_option linter.unusedVariables false

/-- A box that holds an instruction. -/
structure Box9 (w : World) (b : Nat) (i : In) : Prop where
  c0 : w.cell? ⟨b, 0, none⟩ = some (.int .u32 i.addr)
  c1 : w.cell? ⟨b, 1, none⟩ = some (.int .u32 i.imm)
  c2 : w.cell? ⟨b, 2, none⟩ = some (.int .i64 i.op)
  c3 : w.cell? ⟨b, 3, none⟩ = some (.int .i64 i.form)
  c4 : w.cell? ⟨b, 4, none⟩ = some (.int .i64 i.width)
  c5 : w.cell? ⟨b, 5, none⟩ = some (.int .i64 i.cc)
  c6 : w.cell? ⟨b, 6, none⟩ = some (.int .i64 i.a)
  c7 : w.cell? ⟨b, 7, none⟩ = some (.int .i64 i.b)
  c8 : w.cell? ⟨b, 8, none⟩ = some (.int .i64 i.size)
theorem Box9.ext {w w' : World} {b : Nat} {i : In} (h : Box9 w b i) (he : Ext w w') : Box9 w' b i :=
  ⟨he.cell h.c0, he.cell h.c1, he.cell h.c2, he.cell h.c3, he.cell h.c4, he.cell h.c5, he.cell h.c6, he.cell h.c7, he.cell h.c8⟩
theorem Box9.new (w : World) (i : In) (t : TypeId) : Box9 (w.alloc (.cells #[.int .u32 i.addr, .int .u32 i.imm, .int .i64 i.op, .int .i64 i.form, .int .i64 i.width, .int .i64 i.cc, .int .i64 i.a, .int .i64 i.b, .int .i64 i.size] t)) w.heap.size i :=
  ⟨by simp [go_sem], by simp [go_sem], by simp [go_sem], by simp [go_sem], by simp [go_sem], by simp [go_sem], by simp [go_sem], by simp [go_sem], by simp [go_sem]⟩
/-- An instruction as a value. -/
def inV (i : In) : Value := .agg #[.int .u32 i.addr, .int .u32 i.imm, .int .i64 i.op, .int .i64 i.form, .int .i64 i.width, .int .i64 i.cc, .int .i64 i.a, .int .i64 i.b, .int .i64 i.size]

theorem reg_any (w : World) (n : Int) : Calls Try.prog 88 #[.int .i64 n] w fun e w' => e = .returned (.bool (regB n)) ∧ w = w' := by
  go_enter Try.func88, Try.ntmps88
  by_cases h1 : 0 ≤ n
  · by_cases h2 : n < 8
    · go_wp2
      go_ret
      exact ⟨ret_bool (by simp [regB]; omega), rfl⟩
    · go_wp2
      go_ret
      exact ⟨ret_bool (by simp [regB]; omega), rfl⟩
  · go_wp2
    go_ret
    exact ⟨ret_bool (by simp [regB]; omega), rfl⟩
theorem narrow_any (w : World) (n : Nat) : Calls Try.prog 90 #[.int .u32 n] w fun e w' => e = .returned (.bool (narrowB n)) ∧ w = w' := by
  go_enter Try.func90, Try.ntmps90
  by_cases h1 : (n : Int) ≤ 127
  · go_wp2
    go_ret
    exact ⟨ret_bool (by simp [narrowB]; omega), rfl⟩
  · by_cases h2 : (4294967168 : Int) ≤ n
    · go_wp2
      go_ret
      exact ⟨ret_bool (by simp [narrowB]; omega), rfl⟩
    · go_wp2
      go_ret
      exact ⟨ret_bool (by simp [narrowB]; omega), rfl⟩
theorem size_any (w : World) (s : Nat) (hs : s ≤ 8) : Calls Try.prog 69 #[.int .i64 s] w fun e w' => e = .returned (.int .i64 (shapeLen s)) ∧ w = w' := by
  obtain rfl | rfl | rfl | rfl | rfl | rfl | rfl | rfl | rfl : s = 0 ∨ s = 1 ∨ s = 2 ∨ s = 3 ∨ s = 4 ∨ s = 5 ∨ s = 6 ∨ s = 7 ∨ s = 8 := by omega
  all_goals
    go_enter Try.func69, Try.ntmps69
    go_wp2
    go_ret
    exact ⟨rfl, rfl⟩
/-- What access, conditional and opcode return. -/
def ShapeIs (w : World) (o : Option Nat) (e : Ending) (w' : World) : Prop := Ext w w' ∧ ∃ (c : Int) (s : Nat), e = .returned (.tuple #[.int .u8 c, .int .i64 s, .bool o.isSome]) ∧ ∀ t, o = some t → s = t
set_option maxRecDepth 100000 in
theorem info_int : (Try.prog.info? 3).map (fun i => (i.zero, i.size, i.bytes)) = some (some (.int .i64 0), 1, 8) := by kernel_rfl
set_option maxRecDepth 100000 in
theorem eq_pair (x y u v : Int) (w : World) : (Op.equalIn 10000 129 (.agg #[.int .i64 x, .int .i64 y]) (.agg #[.int .i64 u, .int .i64 v])).run Try.prog w = .ok ((x == u) && (y == v)) w := by
  obtain ⟨i0, hi, hz0, hz1, hz2⟩ := info_parts info_int
  rw [run_equalIn_array w (i := i0) 9999 _ _ Try.underlying129 hi]
  have hc : Try.prog.cellsOf 3 = 1 := by kernel_rfl
  simp [hc, List.range, List.range.loop, Op.eqItems, go_sem, run_equalIn_int]
  by_cases h1 : x = u <;> by_cases h2 : y = v <;> simp [h1, h2]
set_option maxRecDepth 100000 in
set_option maxHeartbeats 4000000 in
theorem access_any (w : World) (i : In) (ho : i.op = 16 ∨ i.op = 17 ∨ i.op = 18) : Calls Try.prog 105 #[inV i] w (ShapeIs w (opShape i)) := by
  obtain ⟨W0, hW0⟩ : ∃ W0, w.alloc (.cells #[.int .u32 i.addr, .int .u32 i.imm, .int .i64 i.op, .int .i64 i.form, .int .i64 i.width, .int .i64 i.cc, .int .i64 i.a, .int .i64 i.b, .int .i64 i.size] 61) = W0 := ⟨_, rfl⟩
  have hE : Ext w W0 := by rw [← hW0]; exact (Ext.refl w).alloc _
  have hB : Box9 W0 w.heap.size i := by rw [← hW0]; exact Box9.new w i _
  obtain ⟨o, hO⟩ : ∃ o, opShape i = o := ⟨_, rfl⟩
  have HO := hid hO
  rw [hO]
  have HE := hid hE
  obtain ⟨c0, c1, c2, c3, c4, c5, c6, c7, c8⟩ := hB
  clear hE hO
  unfold inV
  obtain ⟨ad, im, op, fo, wd, cc, a, b, sz⟩ := i
  dsimp only at ho HO c0 c1 c2 c3 c4 c5 c6 c7 c8 ⊢
  clear c0 c1 c3 c5 c6 c7 c8
  have eqp := eq_pair
  go_enter Try.func105, Try.ntmps105
  rcases ho with rfl | rfl | rfl
  all_goals
    by_cases h1 : wd = 1
    · subst h1
      go_wp2
      have ho' := HO.out
      simp [opShape, *] at ho'
      subst ho'
      go_ret3
      exact ⟨HE.out, _, 5, rfl, by simp⟩
    · have n1 : (wd == 1) = false := by simpa using h1
      by_cases h2 : wd = 2
      · subst h2
        go_wp2
        have ho' := HO.out
        simp [opShape, *] at ho'
        subst ho'
        go_ret3
        exact ⟨HE.out, _, 5, rfl, by simp⟩
      · have n2 : (wd == 2) = false := by simpa using h2
        by_cases h4 : wd = 4
        · subst h4
          go_wp2
          have ho' := HO.out
          simp [opShape, *] at ho'
          subst ho'
          go_ret3
          exact ⟨HE.out, _, 5, rfl, by simp⟩
        · have n4 : (wd == 4) = false := by simpa using h4
          go_wp2
          have ho' := HO.out
          simp [opShape, *] at ho'
          subst ho'
          go_ret3
          exact ⟨HE.out, _, 5, rfl, by simp⟩
end Go.Proofs.Ytolbnhkdpbdhhaa
