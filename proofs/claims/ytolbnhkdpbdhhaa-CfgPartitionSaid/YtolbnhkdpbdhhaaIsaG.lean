/- isa.Ends, cfg.ends. -/
import Derived.Test.YtolbnhkdpbdhhaaIsaA
namespace Go.Proofs.Ytolbnhkdpbdhhaa
open Go.RowKit Go.Deco
set_option linter.unusedSimpArgs false
set_option linter.unusedVariables false

set_option maxRecDepth 100000 in
set_option maxHeartbeats 4000000 in
theorem isaends_any (w : World) (i : In) : Calls Try.prog 56 #[inV i] w fun e w' => e = .returned (.bool (endsI i)) ∧ Ext w w' := by
  obtain ⟨W0, hW0⟩ : ∃ W0, w.alloc (.cells #[.int .u32 i.addr, .int .u32 i.imm, .int .i64 i.op, .int .i64 i.form, .int .i64 i.width, .int .i64 i.cc, .int .i64 i.a, .int .i64 i.b, .int .i64 i.size] 61) = W0 := ⟨_, rfl⟩
  have hE : Ext w W0 := by rw [← hW0]; exact (Ext.refl w).alloc _
  have hB : Box9 W0 w.heap.size i := by rw [← hW0]; exact Box9.new w i _
  have HE := hid hE
  have HB := hid hB
  obtain ⟨c0, c1, c2, c3, c4, c5, c6, c7, c8⟩ := hB
  have e : inV i = .agg #[.int .u32 i.addr, .int .u32 i.imm, .int .i64 i.op, .int .i64 i.form, .int .i64 i.width, .int .i64 i.cc, .int .i64 i.a, .int .i64 i.b, .int .i64 i.size] := rfl
  rw [e]
  clear e hE
  obtain ⟨v, hv⟩ : ∃ v, endsI i = v := ⟨_, rfl⟩
  rw [hv]
  have HV := hid hv
  clear hv c0 c1 c3 c4 c6 c7 c8
  go_enter Try.func56, Try.ntmps56
  by_cases z1 : i.op = 1
  case pos =>
    have HV2 : Hid (v = true) := hid (by have := HV.out; rw [← this]; simp [endsI, z1])
    rw [z1] at c2
    clear z1
    go_wp2
    go_ret
    obtain rfl := HV2.out
    exact ⟨rfl, HE.out⟩
  have n1 : (i.op == 1) = false := by simpa using z1
  by_cases z2 : i.op = 2
  case pos =>
    have HV2 : Hid (v = true) := hid (by have := HV.out; rw [← this]; simp [endsI, z2])
    rw [z2] at c2
    clear z2
    go_wp2
    go_ret
    obtain rfl := HV2.out
    exact ⟨rfl, HE.out⟩
  have n2 : (i.op == 2) = false := by simpa using z2
  by_cases z21 : i.op = 21
  case pos =>
    have HV2 : Hid (v = true) := hid (by have := HV.out; rw [← this]; simp [endsI, z21])
    rw [z21] at c2
    clear z21
    go_wp2
    go_ret
    obtain rfl := HV2.out
    exact ⟨rfl, HE.out⟩
  have n21 : (i.op == 21) = false := by simpa using z21
  by_cases z22 : i.op = 22
  case pos =>
    have HV2 : Hid (v = true) := hid (by have := HV.out; rw [← this]; simp [endsI, z22])
    rw [z22] at c2
    clear z22
    go_wp2
    go_ret
    obtain rfl := HV2.out
    exact ⟨rfl, HE.out⟩
  have n22 : (i.op == 22) = false := by simpa using z22
  by_cases z20 : i.op = 20
  · by_cases y0 : i.cc = 0
    · have HV2 : Hid (v = true) := hid (by have := HV.out; rw [← this]; simp [endsI, z20, y0])
      rw [z20] at c2 n1 n2 n21 n22
      rw [y0] at c5
      clear z1 z2 z21 z22 z20 y0
      go_wp2
      go_ret
      obtain rfl := HV2.out
      exact ⟨rfl, HE.out⟩
    · have HV2 : Hid (v = false) := hid (by have := HV.out; rw [← this]; simp [endsI, z20, y0])
      have n5 : (i.cc == 0) = false := by simpa using y0
      rw [z20] at c2 n1 n2 n21 n22
      clear z1 z2 z21 z22 z20 y0
      go_wp2
      go_ret
      obtain rfl := HV2.out
      exact ⟨rfl, HE.out⟩
  · have n20 : (i.op == 20) = false := by simpa using z20
    have HV2 : Hid (v = false) := hid (by have := HV.out; rw [← this]; simp [endsI, z1, z2, z20, z21, z22])
    clear z1 z2 z21 z22 z20
    go_wp2
    go_ret
    obtain rfl := HV2.out
    exact ⟨rfl, HE.out⟩

set_option maxRecDepth 100000 in
set_option maxHeartbeats 4000000 in
theorem cfends_any (w : World) (i : In) : Calls Try.prog 54 #[inV i] w fun e w' => e = .returned (.bool (stopsI i)) ∧ Ext w w' := by
  have hen := isaends_any
  obtain ⟨W0, hW0⟩ : ∃ W0, w.alloc (.cells #[.int .u32 i.addr, .int .u32 i.imm, .int .i64 i.op, .int .i64 i.form, .int .i64 i.width, .int .i64 i.cc, .int .i64 i.a, .int .i64 i.b, .int .i64 i.size] 61) = W0 := ⟨_, rfl⟩
  have hE : Ext w W0 := by rw [← hW0]; exact (Ext.refl w).alloc _
  have hB : Box9 W0 w.heap.size i := by rw [← hW0]; exact Box9.new w i _
  have HE := hid hE
  have HB := hid hB
  obtain ⟨c0, c1, c2, c3, c4, c5, c6, c7, c8⟩ := hB
  have e : inV i = .agg #[.int .u32 i.addr, .int .u32 i.imm, .int .i64 i.op, .int .i64 i.form, .int .i64 i.width, .int .i64 i.cc, .int .i64 i.a, .int .i64 i.b, .int .i64 i.size] := rfl
  rw [e]
  clear e hE
  have HEN := hid (hen W0 i)
  obtain ⟨v, hv⟩ : ∃ v, endsI i = v := ⟨_, rfl⟩
  have hst : stopsI i = (decide (i.op = 20) || v) := by rw [stopsI, hv]
  rw [hst]
  rw [hv] at HEN
  clear hv hst hen
  go_enter Try.func54, Try.ntmps54
  by_cases z20 : i.op = 20
  · rw [z20] at c2
    have e : decide (i.op = 20) = true := by simpa using z20
    rw [e, Bool.true_or]
    clear e z20
    go_wp2
    go_ret
    exact ⟨rfl, HE.out⟩
  · have n20 : (i.op == 20) = false := by simpa using z20
    have e : decide (i.op = 20) = false := by simpa using z20
    rw [e, Bool.false_or]
    clear e z20
    go_wp2_with fail
    clear hW0 c0 c1 c2 c3 c4 c5 c6 c7 c8
    refine (HEN.out).mono ?_
    rintro e w1 ⟨rfl, hx1⟩
    have HX1 := hid (HE.out.trans hx1)
    clear hx1
    go_wp2
    go_ret
    exact ⟨rfl, HX1.out⟩
end Go.Proofs.Ytolbnhkdpbdhhaa
