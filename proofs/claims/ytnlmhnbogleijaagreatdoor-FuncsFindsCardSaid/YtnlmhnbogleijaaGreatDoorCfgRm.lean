/- decompilerref17: ends, indirect, table, in, targets; decompilerref11.At; has, first. -/
import Derived.Test.YtnlmhnbogleijaaGreatDoorCfgm
namespace Go.Proofs.YtnlmhnbogleijaaGreatDoor
open Go.RowKit Go.Deco
set_option linter.unusedSimpArgs false
set_option linter.unusedVariables false
def indI (i : In) : Bool := decide (i.op = 21) || decide (i.op = 22)

set_option maxRecDepth 100000 in
set_option maxHeartbeats 4000000 in
theorem rends_any (w : World) (i : In) : Calls Tryz.prog 60 #[inV i] w fun e w' => e = .returned (.bool (stopsI i)) ∧ Ext w w' := by
  obtain ⟨W0, hW0⟩ : ∃ W0, w.alloc (.cells #[.int .u32 i.addr, .int .u32 i.imm, .int .i64 i.op, .int .i64 i.form, .int .i64 i.width, .int .i64 i.cc, .int .i64 i.a, .int .i64 i.b, .int .i64 i.size] 77) = W0 := ⟨_, rfl⟩
  have hE : Ext w W0 := by rw [← hW0]; exact (Ext.refl w).alloc _
  have hB : Box9 W0 w.heap.size i := by rw [← hW0]; exact Box9.new w i _
  have HE := hid hE
  have HB := hid hB
  obtain ⟨c0, c1, c2, c3, c4, c5, c6, c7, c8⟩ := hB
  have e : inV i = .agg #[.int .u32 i.addr, .int .u32 i.imm, .int .i64 i.op, .int .i64 i.form, .int .i64 i.width, .int .i64 i.cc, .int .i64 i.a, .int .i64 i.b, .int .i64 i.size] := rfl
  rw [e]
  clear e hE
  have ms : True ∧ i.op = i.op := ⟨trivial, rfl⟩
  obtain ⟨v, hv⟩ : ∃ v, stopsI i = v := ⟨_, rfl⟩
  rw [hv]
  have HV := hid hv
  clear hv c0 c1 c3 c4 c5 c6 c7 c8
  go_enter Tryz.func60, Tryz.ntmps60
  by_cases z20 : i.op = 20
  case pos =>
    have HV2 : Hid (v = true) := hid (by have := HV.out; rw [← this]; simp [stopsI, endsI, indI, z20])
    rw [z20] at c2 ms
    clear z20
    go_wp2
    go_ret
    obtain rfl := HV2.out
    exact ⟨rfl, HE.out⟩
  have n20 : (i.op == 20) = false := by simpa using z20
  by_cases z21 : i.op = 21
  case pos =>
    have HV2 : Hid (v = true) := hid (by have := HV.out; rw [← this]; simp [stopsI, endsI, indI, z21])
    rw [z21] at c2 ms
    clear z21
    go_wp2
    go_ret
    obtain rfl := HV2.out
    exact ⟨rfl, HE.out⟩
  have n21 : (i.op == 21) = false := by simpa using z21
  by_cases z22 : i.op = 22
  case pos =>
    have HV2 : Hid (v = true) := hid (by have := HV.out; rw [← this]; simp [stopsI, endsI, indI, z22])
    rw [z22] at c2 ms
    clear z22
    go_wp2
    go_ret
    obtain rfl := HV2.out
    exact ⟨rfl, HE.out⟩
  have n22 : (i.op == 22) = false := by simpa using z22
  by_cases z2 : i.op = 2
  case pos =>
    have HV2 : Hid (v = true) := hid (by have := HV.out; rw [← this]; simp [stopsI, endsI, indI, z2])
    rw [z2] at c2 ms
    clear z2
    go_wp2
    go_ret
    obtain rfl := HV2.out
    exact ⟨rfl, HE.out⟩
  have n2 : (i.op == 2) = false := by simpa using z2
  by_cases z1 : i.op = 1
  case pos =>
    have HV2 : Hid (v = true) := hid (by have := HV.out; rw [← this]; simp [stopsI, endsI, indI, z1])
    rw [z1] at c2 ms
    clear z1
    go_wp2
    go_ret
    obtain rfl := HV2.out
    exact ⟨rfl, HE.out⟩
  have n1 : (i.op == 1) = false := by simpa using z1
  have HV2 : Hid (v = false) := hid (by have := HV.out; rw [← this]; simp [stopsI, endsI, z1, z2, z20, z21, z22])
  clear z1 z2 z20 z21 z22
  go_wp2
  go_ret
  obtain rfl := HV2.out
  exact ⟨rfl, HE.out⟩


end Go.Proofs.YtnlmhnbogleijaaGreatDoor
