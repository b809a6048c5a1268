/- Instructions as plain law: their shapes, which have an encoding, and how long it is. No program in sight. isa: register, narrow, size, access, conditional, opcode. isa: conditional, opcode. isa: opcode. isa.Ends, cfg.ends. -/
import Derived.Test.YtnlmhnbogleijaaGreatDoorBase
import Derived.Test.YtnlmhnbogleijaaGreatDoorRows
import Derived.Test.YtnlmhnbogleijaaGreatDoorMap
import Derived.Lib.Hide
import Derived.Deep.QuietTactic
import Derived.ChangeKeysEq
import Derived.Laws.StructEq
namespace Go.Deco
open Go Go.RowKit
set_option linter.unusedVariables false
set_option linter.unusedSimpArgs false

/-- An instruction. -/
structure In where
  addr : Nat
  imm : Nat
  op : Int
  form : Int
  width : Int
  cc : Int
  a : Int
  b : Int
  size : Int
deriving DecidableEq
def In.zero : In := ⟨0, 0, 0, 0, 0, 0, 0, 0, 0⟩
def inCells (i : In) : List Value := [.int .u32 i.addr, .int .u32 i.imm, .int .i64 i.op, .int .i64 i.form, .int .i64 i.width, .int .i64 i.cc, .int .i64 i.a, .int .i64 i.b, .int .i64 i.size]
def i64ok (n : Int) : Prop := -9223372036854775808 ≤ n ∧ n ≤ 9223372036854775807
def InOk (i : In) : Prop := i.addr < 4294967296 ∧ i.imm < 4294967296 ∧ i64ok i.op ∧ i64ok i.form ∧ i64ok i.width ∧ i64ok i.cc ∧ i64ok i.a ∧ i64ok i.b ∧ i64ok i.size
def insR : Rep In where
  size := 9
  pos := by omega
  rel _ _ cs i := cs = inCells i ∧ InOk i
  keep _ h := h
  mono _ h := h
  len h := by rw [h.1]; rfl
  one h u hu := by
    rw [h.1] at hu
    simp [inCells] at hu
    rcases hu with rfl | rfl | rfl | rfl | rfl | rfl | rfl | rfl | rfl <;> rfl

/-- The shape of an encoding, if there is one. -/
def opShape (i : In) : Option Nat :=
  if i.op = 0 ∨ i.op = 1 ∨ i.op = 2 then some 0
  else if i.op = 3 ∨ i.op = 4 then some 1
  else if 5 ≤ i.op ∧ i.op ≤ 15 then (if i.form = 0 then some 3 else if i.form = 1 then some 4 else if i.form = 2 then some 6 else none)
  else if i.op = 16 ∨ i.op = 17 ∨ i.op = 18 then (if i.width = 1 ∨ i.width = 2 ∨ (i.width = 4 ∧ i.op ≠ 17) then some 5 else none)
  else if i.op = 19 then some 5
  else if i.op = 20 ∨ i.op = 25 then (if i.cc < 0 ∨ 14 < i.cc then none else if i.op = 25 then some 2 else if i.form = 1 then some 7 else if i.form = 2 then some 8 else none)
  else if i.op = 23 then some 8
  else if i.op = 24 ∨ i.op = 21 then some 2
  else if i.op = 22 then some 6
  else if i.op = 26 ∨ i.op = 27 then some 2
  else none
def regB (n : Int) : Bool := decide (0 ≤ n) && decide (n < 8)
def narrowB (n : Nat) : Bool := decide (n ≤ 127) || decide (4294967168 ≤ n)
def keptS (i : In) (s : Nat) : In :=
  if s = 1 ∨ s = 2 then ⟨i.addr, 0, i.op, 0, 0, 0, i.a, 0, i.size⟩
  else if s = 3 then ⟨i.addr, 0, i.op, 0, 0, 0, i.a, i.b, i.size⟩
  else if s = 4 ∨ s = 6 then ⟨i.addr, i.imm, i.op, 0, 0, 0, i.a, 0, i.size⟩
  else if s = 5 then ⟨i.addr, i.imm, i.op, 0, 0, 0, i.a, i.b, i.size⟩
  else if s = 7 ∨ s = 8 then ⟨i.addr, i.imm, i.op, 0, 0, 0, 0, 0, i.size⟩
  else ⟨i.addr, 0, i.op, 0, 0, 0, 0, 0, i.size⟩
def keptI (i : In) (s : Nat) : In :=
  if 5 ≤ i.op ∧ i.op ≤ 15 then { keptS i s with form := i.form }
  else if i.op = 16 ∨ i.op = 17 ∨ i.op = 18 then { keptS i s with width := i.width }
  else if i.op = 20 then { keptS i s with form := i.form, cc := i.cc }
  else if i.op = 25 then { keptS i s with cc := i.cc }
  else keptS i s
def shapeLen (s : Nat) : Nat := [1, 1, 2, 2, 3, 3, 6, 2, 5].getD s 0
def w32d (n : Int) : Nat := (n % 4294967296).toNat
def isaErr (i : In) : Nat :=
  match opShape i with
  | none => 2
  | some s => if regB i.a = false ∨ regB i.b = false ∨ keptI i s ≠ i then 2 else
    if ((s = 4 ∨ s = 5) ∧ narrowB i.imm = false) ∨ (s = 7 ∧ narrowB (w32d ((i.imm : Int) - i.addr - 2)) = false) then 7 else 0
/-- The number of bytes of an instruction, by the program's text. -/
def isaLen (i : In) : Nat := if isaErr i = 0 then shapeLen ((opShape i).getD 0) else 0
/-- The address behind an instruction. -/
def nextI (i : In) : Nat := w32d ((i.addr : Int) + isaLen i)
/-- Whether the next instruction does not follow. -/
def endsI (i : In) : Bool := decide (i.op = 1) || (decide (i.op = 2) || (decide (i.op = 21) || (decide (i.op = 22) || (decide (i.op = 20) && decide (i.cc = 0)))))
/-- Whether an instruction ends a block. -/
def stopsI (i : In) : Bool := decide (i.op = 20) || endsI i
end Go.Deco

namespace Go.Proofs.YtnlmhnbogleijaaGreatDoor
open Go.RowKit Go.Deco
set_option linter.unusedSimpArgs false
set_option linter.unusedVariables false

/-- A box that holds an instruction. -/
structure Box9 (w : World) (b : Nat) (i : In) : Prop where
  c0 : w.cell? ⟨b, 0, none⟩ = some (.int .u32 i.addr)
  c1 : w.cell? ⟨b, 1, none⟩ = some (.int .u32 i.imm)
  c2 : w.cell? ⟨b, 2, none⟩ = some (.int .i64 i.op)
  c3 : w.cell? ⟨b, 3, none⟩ = some (.int .i64 i.form)
  c4 : w.cell? ⟨b, 4, none⟩ = some (.int .i64 i.width)
  c5 : w.cell? ⟨b, 5, none⟩ = some (.int .i64 i.cc)
  c6 : w.cell? ⟨b, 6, none⟩ = some (.int .i64 i.a)
  c7 : w.cell? ⟨b, 7, none⟩ = some (.int .i64 i.b)
  c8 : w.cell? ⟨b, 8, none⟩ = some (.int .i64 i.size)
theorem Box9.ext {w w' : World} {b : Nat} {i : In} (h : Box9 w b i) (he : Ext w w') : Box9 w' b i :=
  ⟨he.cell h.c0, he.cell h.c1, he.cell h.c2, he.cell h.c3, he.cell h.c4, he.cell h.c5, he.cell h.c6, he.cell h.c7, he.cell h.c8⟩
theorem Box9.new (w : World) (i : In) (t : TypeId) : Box9 (w.alloc (.cells #[.int .u32 i.addr, .int .u32 i.imm, .int .i64 i.op, .int .i64 i.form, .int .i64 i.width, .int .i64 i.cc, .int .i64 i.a, .int .i64 i.b, .int .i64 i.size] t)) w.heap.size i :=
  ⟨by simp [go_sem], by simp [go_sem], by simp [go_sem], by simp [go_sem], by simp [go_sem], by simp [go_sem], by simp [go_sem], by simp [go_sem], by simp [go_sem]⟩
/-- An instruction as a value. -/
def inV (i : In) : Value := .agg #[.int .u32 i.addr, .int .u32 i.imm, .int .i64 i.op, .int .i64 i.form, .int .i64 i.width, .int .i64 i.cc, .int .i64 i.a, .int .i64 i.b, .int .i64 i.size]

theorem reg_any (w : World) (n : Int) : Calls Tryz.prog 102 #[.int .i64 n] w fun e w' => e = .returned (.bool (regB n)) ∧ w = w' := by
  go_enter Tryz.func102, Tryz.ntmps102
  by_cases h1 : 0 ≤ n
  · by_cases h2 : n < 8
    · go_wp2
      go_ret
      exact ⟨ret_bool (by simp [regB]; omega), rfl⟩
    · go_wp2
      go_ret
      exact ⟨ret_bool (by simp [regB]; omega), rfl⟩
  · go_wp2
    go_ret
    exact ⟨ret_bool (by simp [regB]; omega), rfl⟩
theorem narrow_any (w : World) (n : Nat) : Calls Tryz.prog 104 #[.int .u32 n] w fun e w' => e = .returned (.bool (narrowB n)) ∧ w = w' := by
  go_enter Tryz.func104, Tryz.ntmps104
  by_cases h1 : (n : Int) ≤ 127
  · go_wp2
    go_ret
    exact ⟨ret_bool (by simp [narrowB]; omega), rfl⟩
  · by_cases h2 : (4294967168 : Int) ≤ n
    · go_wp2
      go_ret
      exact ⟨ret_bool (by simp [narrowB]; omega), rfl⟩
    · go_wp2
      go_ret
      exact ⟨ret_bool (by simp [narrowB]; omega), rfl⟩
theorem size_any (w : World) (s : Nat) (hs : s ≤ 8) : Calls Tryz.prog 92 #[.int .i64 s] w fun e w' => e = .returned (.int .i64 (shapeLen s)) ∧ w = w' := by
  obtain rfl | rfl | rfl | rfl | rfl | rfl | rfl | rfl | rfl : s = 0 ∨ s = 1 ∨ s = 2 ∨ s = 3 ∨ s = 4 ∨ s = 5 ∨ s = 6 ∨ s = 7 ∨ s = 8 := by omega
  all_goals
    go_enter Tryz.func92, Tryz.ntmps92
    go_wp2
    go_ret
    exact ⟨rfl, rfl⟩
/-- What access, conditional and opcode return. -/
def ShapeIs (w : World) (o : Option Nat) (e : Ending) (w' : World) : Prop := Ext w w' ∧ ∃ (c : Int) (s : Nat), e = .returned (.tuple #[.int .u8 c, .int .i64 s, .bool o.isSome]) ∧ ∀ t, o = some t → s = t
set_option maxRecDepth 100000 in
theorem info_int : (Tryz.prog.info? 3).map (fun i => (i.zero, i.size, i.bytes)) = some (some (.int .i64 0), 1, 8) := by kernel_rfl
set_option maxRecDepth 100000 in
theorem eq_pair (x y u v : Int) (w : World) : (Op.equalIn 10000 150 (.agg #[.int .i64 x, .int .i64 y]) (.agg #[.int .i64 u, .int .i64 v])).run Tryz.prog w = .ok ((x == u) && (y == v)) w := by
  obtain ⟨i0, hi, hz0, hz1, hz2⟩ := info_parts info_int
  rw [run_equalIn_array w (i := i0) 9999 _ _ Tryz.underlying150 hi]
  have hc : Tryz.prog.cellsOf 3 = 1 := by kernel_rfl
  simp [hc, List.range, List.range.loop, Op.eqItems, go_sem, run_equalIn_int]
  by_cases h1 : x = u <;> by_cases h2 : y = v <;> simp [h1, h2]
set_option maxRecDepth 100000 in
set_option maxHeartbeats 4000000 in
theorem access_any (w : World) (i : In) (ho : i.op = 16 ∨ i.op = 17 ∨ i.op = 18) : Calls Tryz.prog 113 #[inV i] w (ShapeIs w (opShape i)) := by
  obtain ⟨W0, hW0⟩ : ∃ W0, w.alloc (.cells #[.int .u32 i.addr, .int .u32 i.imm, .int .i64 i.op, .int .i64 i.form, .int .i64 i.width, .int .i64 i.cc, .int .i64 i.a, .int .i64 i.b, .int .i64 i.size] 77) = W0 := ⟨_, rfl⟩
  have hE : Ext w W0 := by rw [← hW0]; exact (Ext.refl w).alloc _
  have hB : Box9 W0 w.heap.size i := by rw [← hW0]; exact Box9.new w i _
  obtain ⟨o, hO⟩ : ∃ o, opShape i = o := ⟨_, rfl⟩
  have HO := hid hO
  rw [hO]
  have HE := hid hE
  obtain ⟨c0, c1, c2, c3, c4, c5, c6, c7, c8⟩ := hB
  clear hE hO
  unfold inV
  obtain ⟨ad, im, op, fo, wd, cc, a, b, sz⟩ := i
  dsimp only at ho HO c0 c1 c2 c3 c4 c5 c6 c7 c8 ⊢
  clear c0 c1 c3 c5 c6 c7 c8
  have eqp := eq_pair
  go_enter Tryz.func113, Tryz.ntmps113
  rcases ho with rfl | rfl | rfl
  all_goals
    by_cases h1 : wd = 1
    · subst h1
      go_wp2
      have ho' := HO.out
      simp [opShape, *] at ho'
      subst ho'
      go_ret3
      exact ⟨HE.out, _, 5, rfl, by simp⟩
    · have n1 : (wd == 1) = false := by simpa using h1
      by_cases h2 : wd = 2
      · subst h2
        go_wp2
        have ho' := HO.out
        simp [opShape, *] at ho'
        subst ho'
        go_ret3
        exact ⟨HE.out, _, 5, rfl, by simp⟩
      · have n2 : (wd == 2) = false := by simpa using h2
        by_cases h4 : wd = 4
        · subst h4
          go_wp2
          have ho' := HO.out
          simp [opShape, *] at ho'
          subst ho'
          go_ret3
          exact ⟨HE.out, _, 5, rfl, by simp⟩
        · have n4 : (wd == 4) = false := by simpa using h4
          go_wp2
          have ho' := HO.out
          simp [opShape, *] at ho'
          subst ho'
          go_ret3
          exact ⟨HE.out, _, 5, rfl, by simp⟩
end Go.Proofs.YtnlmhnbogleijaaGreatDoor

namespace Go.Proofs.YtnlmhnbogleijaaGreatDoor
open Go.RowKit Go.Deco
set_option linter.unusedSimpArgs false
set_option linter.unusedVariables false

set_option maxRecDepth 100000 in
set_option maxHeartbeats 4000000 in
theorem cond_any (w : World) (i : In) (ho : i.op = 20 ∨ i.op = 25) : Calls Tryz.prog 114 #[inV i] w (ShapeIs w (opShape i)) := by
  obtain ⟨W0, hW0⟩ : ∃ W0, w.alloc (.cells #[.int .u32 i.addr, .int .u32 i.imm, .int .i64 i.op, .int .i64 i.form, .int .i64 i.width, .int .i64 i.cc, .int .i64 i.a, .int .i64 i.b, .int .i64 i.size] 77) = W0 := ⟨_, rfl⟩
  have hE : Ext w W0 := by rw [← hW0]; exact (Ext.refl w).alloc _
  have hB : Box9 W0 w.heap.size i := by rw [← hW0]; exact Box9.new w i _
  obtain ⟨o, hO⟩ : ∃ o, opShape i = o := ⟨_, rfl⟩
  have HO := hid hO
  rw [hO]
  have HE := hid hE
  obtain ⟨c0, c1, c2, c3, c4, c5, c6, c7, c8⟩ := hB
  clear hE hO
  unfold inV
  obtain ⟨ad, im, op, fo, wd, cc, a, b, sz⟩ := i
  dsimp only at ho HO c0 c1 c2 c3 c4 c5 c6 c7 c8 ⊢
  clear c0 c1 c4 c6 c7 c8
  go_enter Tryz.func114, Tryz.ntmps114
  by_cases h1 : cc < 0
  · have HO2 : Hid (o = none) := hid (by have := HO.out; rw [← this]; rcases ho with rfl | rfl <;> simp [opShape, h1])
    go_wp2
    obtain rfl := HO2.out
    go_ret3
    exact ⟨HE.out, _, 0, rfl, by simp⟩
  · by_cases h2 : 14 < cc
    · have HO2 : Hid (o = none) := hid (by have := HO.out; rw [← this]; rcases ho with rfl | rfl <;> simp [opShape, h2])
      go_wp2
      obtain rfl := HO2.out
      go_ret3
      exact ⟨HE.out, _, 0, rfl, by simp⟩
    · rcases ho with rfl | rfl
      · by_cases h3 : fo = 1
        · subst h3
          have HO2 : Hid (o = some 7) := hid (by have := HO.out; rw [← this]; simp [opShape]; omega)
          go_wp2
          obtain rfl := HO2.out
          go_ret3
          exact ⟨HE.out, _, 7, rfl, by simp⟩
        · have n3 : (fo == 1) = false := by simpa using h3
          by_cases h4 : fo = 2
          · subst h4
            have HO2 : Hid (o = some 8) := hid (by have := HO.out; rw [← this]; simp [opShape]; omega)
            go_wp2
            obtain rfl := HO2.out
            go_ret3
            exact ⟨HE.out, _, 8, rfl, by simp⟩
          · have n4 : (fo == 2) = false := by simpa using h4
            have HO2 : Hid (o = none) := hid (by have := HO.out; rw [← this]; simp [opShape, h3, h4])
            go_wp2
            obtain rfl := HO2.out
            go_ret3
            exact ⟨HE.out, _, 0, rfl, by simp⟩
      · have HO2 : Hid (o = some 2) := hid (by have := HO.out; rw [← this]; simp [opShape]; omega)
        go_wp2
        obtain rfl := HO2.out
        go_ret3
        exact ⟨HE.out, _, 2, rfl, by simp⟩
end Go.Proofs.YtnlmhnbogleijaaGreatDoor

namespace Go.Proofs.YtnlmhnbogleijaaGreatDoor
open Go.RowKit Go.Deco
set_option linter.unusedSimpArgs false
set_option linter.unusedVariables false

set_option maxRecDepth 100000 in
set_option maxHeartbeats 8000000 in
theorem opcode_any (w : World) (i : In) : Calls Tryz.prog 101 #[inV i] w (ShapeIs w (opShape i)) := by
  obtain ⟨W0, hW0⟩ : ∃ W0, w.alloc (.cells #[.int .u32 i.addr, .int .u32 i.imm, .int .i64 i.op, .int .i64 i.form, .int .i64 i.width, .int .i64 i.cc, .int .i64 i.a, .int .i64 i.b, .int .i64 i.size] 77) = W0 := ⟨_, rfl⟩
  have hE : Ext w W0 := by rw [← hW0]; exact (Ext.refl w).alloc _
  have hB : Box9 W0 w.heap.size i := by rw [← hW0]; exact Box9.new w i _
  obtain ⟨o, hO⟩ : ∃ o, opShape i = o := ⟨_, rfl⟩
  have HO := hid hO
  rw [hO]
  have HE := hid hE
  have HC := hid hB
  obtain ⟨c0, c1, c2, c3, c4, c5, c6, c7, c8⟩ := hB
  clear hE hO
  unfold inV
  obtain ⟨ad, im, op, fo, wd, cc, a, b, sz⟩ := i
  dsimp only at HO c0 c1 c2 c3 c4 c5 c6 c7 c8 ⊢
  clear HC
  go_enter Tryz.func101, Tryz.ntmps101
  by_cases z0 : op = 0
  case pos =>
    subst z0
    have HO2 : Hid (o = some 0) := hid (by have := HO.out; rw [← this]; simp [opShape, *])
    go_wp2
    obtain rfl := HO2.out
    go_ret3
    exact ⟨HE.out, _, 0, rfl, by simp⟩
  have n0 : (op == 0) = false := by simpa using z0
  by_cases z1 : op = 1
  case pos =>
    subst z1
    have HO2 : Hid (o = some 0) := hid (by have := HO.out; rw [← this]; simp [opShape, *])
    go_wp2
    obtain rfl := HO2.out
    go_ret3
    exact ⟨HE.out, _, 0, rfl, by simp⟩
  have n1 : (op == 1) = false := by simpa using z1
  by_cases z2 : op = 2
  case pos =>
    subst z2
    have HO2 : Hid (o = some 0) := hid (by have := HO.out; rw [← this]; simp [opShape, *])
    go_wp2
    obtain rfl := HO2.out
    go_ret3
    exact ⟨HE.out, _, 0, rfl, by simp⟩
  have n2 : (op == 2) = false := by simpa using z2
  by_cases z3 : op = 3
  case pos =>
    subst z3
    have HO2 : Hid (o = some 1) := hid (by have := HO.out; rw [← this]; simp [opShape, *])
    go_wp2
    obtain rfl := HO2.out
    go_ret3
    exact ⟨HE.out, _, 1, rfl, by simp⟩
  have n3 : (op == 3) = false := by simpa using z3
  by_cases z4 : op = 4
  case pos =>
    subst z4
    have HO2 : Hid (o = some 1) := hid (by have := HO.out; rw [← this]; simp [opShape, *])
    go_wp2
    obtain rfl := HO2.out
    go_ret3
    exact ⟨HE.out, _, 1, rfl, by simp⟩
  have n4 : (op == 4) = false := by simpa using z4
  by_cases h5 : 5 ≤ op ∧ op ≤ 15
  case pos =>
    obtain ⟨h5, h15⟩ := h5
    by_cases f0 : fo = 0
    · subst f0
      have HO2 : Hid (o = some 3) := hid (by have := HO.out; rw [← this]; simp [opShape, *])
      go_wp2
      obtain rfl := HO2.out
      go_ret3
      exact ⟨HE.out, _, 3, rfl, by simp⟩
    have m0 : (fo == 0) = false := by simpa using f0
    by_cases f1 : fo = 1
    · subst f1
      have HO2 : Hid (o = some 4) := hid (by have := HO.out; rw [← this]; simp [opShape, *])
      go_wp2
      obtain rfl := HO2.out
      go_ret3
      exact ⟨HE.out, _, 4, rfl, by simp⟩
    have m1 : (fo == 1) = false := by simpa using f1
    by_cases f2 : fo = 2
    · subst f2
      have HO2 : Hid (o = some 6) := hid (by have := HO.out; rw [← this]; simp [opShape, *])
      go_wp2
      obtain rfl := HO2.out
      go_ret3
      exact ⟨HE.out, _, 6, rfl, by simp⟩
    have m2 : (fo == 2) = false := by simpa using f2
    have HO2 : Hid (o = none) := hid (by have := HO.out; rw [← this]; simp [opShape, *])
    go_wp2
    obtain rfl := HO2.out
    go_ret3
    exact ⟨HE.out, _, 0, rfl, by simp⟩
  by_cases z19 : op = 19
  case pos =>
    subst z19
    have HO2 : Hid (o = some 5) := hid (by have := HO.out; rw [← this]; simp [opShape, *])
    go_wp2
    obtain rfl := HO2.out
    go_ret3
    exact ⟨HE.out, _, 5, rfl, by simp⟩
  have n19 : (op == 19) = false := by simpa using z19
  by_cases z23 : op = 23
  case pos =>
    subst z23
    have HO2 : Hid (o = some 8) := hid (by have := HO.out; rw [← this]; simp [opShape, *])
    go_wp2
    obtain rfl := HO2.out
    go_ret3
    exact ⟨HE.out, _, 8, rfl, by simp⟩
  have n23 : (op == 23) = false := by simpa using z23
  by_cases z24 : op = 24
  case pos =>
    subst z24
    have HO2 : Hid (o = some 2) := hid (by have := HO.out; rw [← this]; simp [opShape, *])
    go_wp2
    obtain rfl := HO2.out
    go_ret3
    exact ⟨HE.out, _, 2, rfl, by simp⟩
  have n24 : (op == 24) = false := by simpa using z24
  by_cases z21 : op = 21
  case pos =>
    subst z21
    have HO2 : Hid (o = some 2) := hid (by have := HO.out; rw [← this]; simp [opShape, *])
    go_wp2
    obtain rfl := HO2.out
    go_ret3
    exact ⟨HE.out, _, 2, rfl, by simp⟩
  have n21 : (op == 21) = false := by simpa using z21
  by_cases z22 : op = 22
  case pos =>
    subst z22
    have HO2 : Hid (o = some 6) := hid (by have := HO.out; rw [← this]; simp [opShape, *])
    go_wp2
    obtain rfl := HO2.out
    go_ret3
    exact ⟨HE.out, _, 6, rfl, by simp⟩
  have n22 : (op == 22) = false := by simpa using z22
  by_cases z26 : op = 26
  case pos =>
    subst z26
    have HO2 : Hid (o = some 2) := hid (by have := HO.out; rw [← this]; simp [opShape, *])
    go_wp2
    obtain rfl := HO2.out
    go_ret3
    exact ⟨HE.out, _, 2, rfl, by simp⟩
  have n26 : (op == 26) = false := by simpa using z26
  by_cases z27 : op = 27
  case pos =>
    subst z27
    have HO2 : Hid (o = some 2) := hid (by have := HO.out; rw [← this]; simp [opShape, *])
    go_wp2
    obtain rfl := HO2.out
    go_ret3
    exact ⟨HE.out, _, 2, rfl, by simp⟩
  have n27 : (op == 27) = false := by simpa using z27
  by_cases z16 : op = 16
  case pos =>
    subst z16
    go_wp2_with fail
    have hc := access_any W0 ⟨ad, im, 16, fo, wd, cc, a, b, sz⟩ (by simp)
    rw [HO.out] at hc
    refine hc.mono ?_
    rintro e w1 ⟨hx, c, s, rfl, hs⟩
    have HX := hid (HE.out.trans hx)
    have HSS := hid hs
    clear hx hs hc
    obtain ⟨ob, hob⟩ : ∃ ob, o.isSome = ob := ⟨_, rfl⟩
    have HOB := hid hob
    rw [hob]
    clear hob c0 c1 c2 c3 c4 c5 c6 c7 c8
    go_wp2
    go_ret3
    obtain rfl := HOB.out
    exact ⟨HX.out, c, s, rfl, HSS.out⟩
  have n16 : (op == 16) = false := by simpa using z16
  by_cases z17 : op = 17
  case pos =>
    subst z17
    go_wp2_with fail
    have hc := access_any W0 ⟨ad, im, 17, fo, wd, cc, a, b, sz⟩ (by simp)
    rw [HO.out] at hc
    refine hc.mono ?_
    rintro e w1 ⟨hx, c, s, rfl, hs⟩
    have HX := hid (HE.out.trans hx)
    have HSS := hid hs
    clear hx hs hc
    obtain ⟨ob, hob⟩ : ∃ ob, o.isSome = ob := ⟨_, rfl⟩
    have HOB := hid hob
    rw [hob]
    clear hob c0 c1 c2 c3 c4 c5 c6 c7 c8
    go_wp2
    go_ret3
    obtain rfl := HOB.out
    exact ⟨HX.out, c, s, rfl, HSS.out⟩
  have n17 : (op == 17) = false := by simpa using z17
  by_cases z18 : op = 18
  case pos =>
    subst z18
    go_wp2_with fail
    have hc := access_any W0 ⟨ad, im, 18, fo, wd, cc, a, b, sz⟩ (by simp)
    rw [HO.out] at hc
    refine hc.mono ?_
    rintro e w1 ⟨hx, c, s, rfl, hs⟩
    have HX := hid (HE.out.trans hx)
    have HSS := hid hs
    clear hx hs hc
    obtain ⟨ob, hob⟩ : ∃ ob, o.isSome = ob := ⟨_, rfl⟩
    have HOB := hid hob
    rw [hob]
    clear hob c0 c1 c2 c3 c4 c5 c6 c7 c8
    go_wp2
    go_ret3
    obtain rfl := HOB.out
    exact ⟨HX.out, c, s, rfl, HSS.out⟩
  have n18 : (op == 18) = false := by simpa using z18
  by_cases z20 : op = 20
  case pos =>
    subst z20
    go_wp2_with fail
    have hc := cond_any W0 ⟨ad, im, 20, fo, wd, cc, a, b, sz⟩ (by simp)
    rw [HO.out] at hc
    refine hc.mono ?_
    rintro e w1 ⟨hx, c, s, rfl, hs⟩
    have HX := hid (HE.out.trans hx)
    have HSS := hid hs
    clear hx hs hc
    obtain ⟨ob, hob⟩ : ∃ ob, o.isSome = ob := ⟨_, rfl⟩
    have HOB := hid hob
    rw [hob]
    clear hob c0 c1 c2 c3 c4 c5 c6 c7 c8
    go_wp2
    go_ret3
    obtain rfl := HOB.out
    exact ⟨HX.out, c, s, rfl, HSS.out⟩
  have n20 : (op == 20) = false := by simpa using z20
  by_cases z25 : op = 25
  case pos =>
    subst z25
    go_wp2_with fail
    have hc := cond_any W0 ⟨ad, im, 25, fo, wd, cc, a, b, sz⟩ (by simp)
    rw [HO.out] at hc
    refine hc.mono ?_
    rintro e w1 ⟨hx, c, s, rfl, hs⟩
    have HX := hid (HE.out.trans hx)
    have HSS := hid hs
    clear hx hs hc
    obtain ⟨ob, hob⟩ : ∃ ob, o.isSome = ob := ⟨_, rfl⟩
    have HOB := hid hob
    rw [hob]
    clear hob c0 c1 c2 c3 c4 c5 c6 c7 c8
    go_wp2
    go_ret3
    obtain rfl := HOB.out
    exact ⟨HX.out, c, s, rfl, HSS.out⟩
  have n25 : (op == 25) = false := by simpa using z25
  by_cases g5 : 5 ≤ op
  · have g15 : ¬ op ≤ 15 := fun h => h5 ⟨g5, h⟩
    clear h5
    have HO2 : Hid (o = none) := hid (by have := HO.out; rw [← this]; simp [opShape, *])
    go_wp2
    obtain rfl := HO2.out
    go_ret3
    exact ⟨HE.out, _, 0, rfl, by simp⟩
  · clear h5
    have HO2 : Hid (o = none) := hid (by have := HO.out; rw [← this]; simp [opShape, *])
    go_wp2
    obtain rfl := HO2.out
    go_ret3
    exact ⟨HE.out, _, 0, rfl, by simp⟩
end Go.Proofs.YtnlmhnbogleijaaGreatDoor

namespace Go.Proofs.YtnlmhnbogleijaaGreatDoor
open Go.RowKit Go.Deco
set_option linter.unusedSimpArgs false
set_option linter.unusedVariables false

set_option maxRecDepth 100000 in
set_option maxHeartbeats 4000000 in
theorem isaends_any (w : World) (i : In) : Calls Tryz.prog 74 #[inV i] w fun e w' => e = .returned (.bool (endsI i)) ∧ Ext w w' := by
  obtain ⟨W0, hW0⟩ : ∃ W0, w.alloc (.cells #[.int .u32 i.addr, .int .u32 i.imm, .int .i64 i.op, .int .i64 i.form, .int .i64 i.width, .int .i64 i.cc, .int .i64 i.a, .int .i64 i.b, .int .i64 i.size] 77) = W0 := ⟨_, rfl⟩
  have hE : Ext w W0 := by rw [← hW0]; exact (Ext.refl w).alloc _
  have hB : Box9 W0 w.heap.size i := by rw [← hW0]; exact Box9.new w i _
  have HE := hid hE
  have HB := hid hB
  obtain ⟨c0, c1, c2, c3, c4, c5, c6, c7, c8⟩ := hB
  have e : inV i = .agg #[.int .u32 i.addr, .int .u32 i.imm, .int .i64 i.op, .int .i64 i.form, .int .i64 i.width, .int .i64 i.cc, .int .i64 i.a, .int .i64 i.b, .int .i64 i.size] := rfl
  rw [e]
  clear e hE
  obtain ⟨v, hv⟩ : ∃ v, endsI i = v := ⟨_, rfl⟩
  rw [hv]
  have HV := hid hv
  clear hv c0 c1 c3 c4 c6 c7 c8
  go_enter Tryz.func74, Tryz.ntmps74
  by_cases z1 : i.op = 1
  case pos =>
    have HV2 : Hid (v = true) := hid (by have := HV.out; rw [← this]; simp [endsI, z1])
    rw [z1] at c2
    clear z1
    go_wp2
    go_ret
    obtain rfl := HV2.out
    exact ⟨rfl, HE.out⟩
  have n1 : (i.op == 1) = false := by simpa using z1
  by_cases z2 : i.op = 2
  case pos =>
    have HV2 : Hid (v = true) := hid (by have := HV.out; rw [← this]; simp [endsI, z2])
    rw [z2] at c2
    clear z2
    go_wp2
    go_ret
    obtain rfl := HV2.out
    exact ⟨rfl, HE.out⟩
  have n2 : (i.op == 2) = false := by simpa using z2
  by_cases z21 : i.op = 21
  case pos =>
    have HV2 : Hid (v = true) := hid (by have := HV.out; rw [← this]; simp [endsI, z21])
    rw [z21] at c2
    clear z21
    go_wp2
    go_ret
    obtain rfl := HV2.out
    exact ⟨rfl, HE.out⟩
  have n21 : (i.op == 21) = false := by simpa using z21
  by_cases z22 : i.op = 22
  case pos =>
    have HV2 : Hid (v = true) := hid (by have := HV.out; rw [← this]; simp [endsI, z22])
    rw [z22] at c2
    clear z22
    go_wp2
    go_ret
    obtain rfl := HV2.out
    exact ⟨rfl, HE.out⟩
  have n22 : (i.op == 22) = false := by simpa using z22
  by_cases z20 : i.op = 20
  · by_cases y0 : i.cc = 0
    · have HV2 : Hid (v = true) := hid (by have := HV.out; rw [← this]; simp [endsI, z20, y0])
      rw [z20] at c2 n1 n2 n21 n22
      rw [y0] at c5
      clear z1 z2 z21 z22 z20 y0
      go_wp2
      go_ret
      obtain rfl := HV2.out
      exact ⟨rfl, HE.out⟩
    · have HV2 : Hid (v = false) := hid (by have := HV.out; rw [← this]; simp [endsI, z20, y0])
      have n5 : (i.cc == 0) = false := by simpa using y0
      rw [z20] at c2 n1 n2 n21 n22
      clear z1 z2 z21 z22 z20 y0
      go_wp2
      go_ret
      obtain rfl := HV2.out
      exact ⟨rfl, HE.out⟩
  · have n20 : (i.op == 20) = false := by simpa using z20
    have HV2 : Hid (v = false) := hid (by have := HV.out; rw [← this]; simp [endsI, z1, z2, z20, z21, z22])
    clear z1 z2 z21 z22 z20
    go_wp2
    go_ret
    obtain rfl := HV2.out
    exact ⟨rfl, HE.out⟩

set_option maxRecDepth 100000 in
set_option maxHeartbeats 4000000 in
theorem cfends_any (w : World) (i : In) : Calls Tryz.prog 52 #[inV i] w fun e w' => e = .returned (.bool (stopsI i)) ∧ Ext w w' := by
  have hen := isaends_any
  obtain ⟨W0, hW0⟩ : ∃ W0, w.alloc (.cells #[.int .u32 i.addr, .int .u32 i.imm, .int .i64 i.op, .int .i64 i.form, .int .i64 i.width, .int .i64 i.cc, .int .i64 i.a, .int .i64 i.b, .int .i64 i.size] 77) = W0 := ⟨_, rfl⟩
  have hE : Ext w W0 := by rw [← hW0]; exact (Ext.refl w).alloc _
  have hB : Box9 W0 w.heap.size i := by rw [← hW0]; exact Box9.new w i _
  have HE := hid hE
  have HB := hid hB
  obtain ⟨c0, c1, c2, c3, c4, c5, c6, c7, c8⟩ := hB
  have e : inV i = .agg #[.int .u32 i.addr, .int .u32 i.imm, .int .i64 i.op, .int .i64 i.form, .int .i64 i.width, .int .i64 i.cc, .int .i64 i.a, .int .i64 i.b, .int .i64 i.size] := rfl
  rw [e]
  clear e hE
  have HEN := hid (hen W0 i)
  obtain ⟨v, hv⟩ : ∃ v, endsI i = v := ⟨_, rfl⟩
  have hst : stopsI i = (decide (i.op = 20) || v) := by rw [stopsI, hv]
  rw [hst]
  rw [hv] at HEN
  clear hv hst hen
  go_enter Tryz.func52, Tryz.ntmps52
  by_cases z20 : i.op = 20
  · rw [z20] at c2
    have e : decide (i.op = 20) = true := by simpa using z20
    rw [e, Bool.true_or]
    clear e z20
    go_wp2
    go_ret
    exact ⟨rfl, HE.out⟩
  · have n20 : (i.op == 20) = false := by simpa using z20
    have e : decide (i.op = 20) = false := by simpa using z20
    rw [e, Bool.false_or]
    clear e z20
    go_wp2_with fail
    clear hW0 c0 c1 c2 c3 c4 c5 c6 c7 c8
    refine (HEN.out).mono ?_
    rintro e w1 ⟨rfl, hx1⟩
    have HX1 := hid (HE.out.trans hx1)
    clear hx1
    go_wp2
    go_ret
    exact ⟨rfl, HX1.out⟩
end Go.Proofs.YtnlmhnbogleijaaGreatDoor
