/- Instructions as plain law: their shapes, which have an encoding, and how long it is. No program in sight. -/
import Derived.Test.YtolbnhkdpbdhhaaBase
namespace Go.Deco
open Go Go.RowKit
set_option linter.unusedVariables false
set_option linter.unusedSimpArgs false

/-- An instruction. -/
structure In where
  addr : Nat
  imm : Nat
  op : Int
  form : Int
  width : Int
  cc : Int
  a : Int
  b : Int
  size : Int
deriving DecidableEq
def In.zero : In := ⟨0, 0, 0, 0, 0, 0, 0, 0, 0⟩
def inCells (i : In) : List Value := [.int .u32 i.addr, .int .u32 i.imm, .int .i64 i.op, .int .i64 i.form, .int .i64 i.width, .int .i64 i.cc, .int .i64 i.a, .int .i64 i.b, .int .i64 i.size]
def i64ok (n : Int) : Prop := -9223372036854775808 ≤ n ∧ n ≤ 9223372036854775807
def InOk (i : In) : Prop := i.addr < 4294967296 ∧ i.imm < 4294967296 ∧ i64ok i.op ∧ i64ok i.form ∧ i64ok i.width ∧ i64ok i.cc ∧ i64ok i.a ∧ i64ok i.b ∧ i64ok i.size
def insR : Rep In where
  size := 9
  pos := by omega
  rel _ _ cs i := cs = inCells i ∧ InOk i
  keep _ h := h
  mono _ h := h
  len h := by rw [h.1]; rfl
  one h u hu := by
    rw [h.1] at hu
    simp [inCells] at hu
    rcases hu with rfl | rfl | rfl | rfl | rfl | rfl | rfl | rfl | rfl <;> rfl

/-- The shape of an encoding, if there is one. -/
def opShape (i : In) : Option Nat :=
  if i.op = 0 ∨ i.op = 1 ∨ i.op = 2 then some 0
  else if i.op = 3 ∨ i.op = 4 then some 1
  else if 5 ≤ i.op ∧ i.op ≤ 15 then (if i.form = 0 then some 3 else if i.form = 1 then some 4 else if i.form = 2 then some 6 else none)
  else if i.op = 16 ∨ i.op = 17 ∨ i.op = 18 then (if i.width = 1 ∨ i.width = 2 ∨ (i.width = 4 ∧ i.op ≠ 17) then some 5 else none)
  else if i.op = 19 then some 5
  else if i.op = 20 ∨ i.op = 25 then (if i.cc < 0 ∨ 14 < i.cc then none else if i.op = 25 then some 2 else if i.form = 1 then some 7 else if i.form = 2 then some 8 else none)
  else if i.op = 23 then some 8
  else if i.op = 24 ∨ i.op = 21 then some 2
  else if i.op = 22 then some 6
  else if i.op = 26 ∨ i.op = 27 then some 2
  else none
def regB (n : Int) : Bool := decide (0 ≤ n) && decide (n < 8)
def narrowB (n : Nat) : Bool := decide (n ≤ 127) || decide (4294967168 ≤ n)
def keptS (i : In) (s : Nat) : In :=
  if s = 1 ∨ s = 2 then ⟨i.addr, 0, i.op, 0, 0, 0, i.a, 0, i.size⟩
  else if s = 3 then ⟨i.addr, 0, i.op, 0, 0, 0, i.a, i.b, i.size⟩
  else if s = 4 ∨ s = 6 then ⟨i.addr, i.imm, i.op, 0, 0, 0, i.a, 0, i.size⟩
  else if s = 5 then ⟨i.addr, i.imm, i.op, 0, 0, 0, i.a, i.b, i.size⟩
  else if s = 7 ∨ s = 8 then ⟨i.addr, i.imm, i.op, 0, 0, 0, 0, 0, i.size⟩
  else ⟨i.addr, 0, i.op, 0, 0, 0, 0, 0, i.size⟩
def keptI (i : In) (s : Nat) : In :=
  if 5 ≤ i.op ∧ i.op ≤ 15 then { keptS i s with form := i.form }
  else if i.op = 16 ∨ i.op = 17 ∨ i.op = 18 then { keptS i s with width := i.width }
  else if i.op = 20 then { keptS i s with form := i.form, cc := i.cc }
  else if i.op = 25 then { keptS i s with cc := i.cc }
  else keptS i s
def shapeLen (s : Nat) : Nat := [1, 1, 2, 2, 3, 3, 6, 2, 5].getD s 0
def w32d (n : Int) : Nat := (n % 4294967296).toNat
def isaErr (i : In) : Nat :=
  match opShape i with
  | none => 2
  | some s => if regB i.a = false ∨ regB i.b = false ∨ keptI i s ≠ i then 2 else
    if ((s = 4 ∨ s = 5) ∧ narrowB i.imm = false) ∨ (s = 7 ∧ narrowB (w32d ((i.imm : Int) - i.addr - 2)) = false) then 7 else 0
/-- The number of bytes of an instruction, by the program's text. -/
def isaLen (i : In) : Nat := if isaErr i = 0 then shapeLen ((opShape i).getD 0) else 0
/-- The address behind an instruction. -/
def nextI (i : In) : Nat := w32d ((i.addr : Int) + isaLen i)
/-- Whether the next instruction does not follow. -/
def endsI (i : In) : Bool := decide (i.op = 1) || (decide (i.op = 2) || (decide (i.op = 21) || (decide (i.op = 22) || (decide (i.op = 20) && decide (i.cc = 0)))))
/-- Whether an instruction ends a block. -/
def stopsI (i : In) : Bool := decide (i.op = 20) || endsI i
end Go.Deco
