/- A symbol in a box. -/
import Derived.Test.YtnlofhbimfcejaaSymA
namespace Go.Proofs.Ytnlofhbimfcejaa
open Go.RowKit Go.Deco
set_option linter.unusedSimpArgs false
set_option linter.unusedVariables false

/-- A symbol in the three cells of a box. -/
def SyAt (w : World) (b : Nat) (s : Sy) : Prop :=
  w.cell? ⟨b, 0, none⟩ = some (.string s.name) ∧ w.cell? ⟨b, 1, none⟩ = some (.int .u32 s.addr) ∧ w.cell? ⟨b, 2, none⟩ = some (.int .i64 s.kind) ∧ ∀ i, w.frozen? ⟨b, i, none⟩ = false
def put3 (w : World) (b : Nat) (s : Sy) : World := ((w.setCell ⟨b, 0, none⟩ (.string s.name)).setCell ⟨b, 1, none⟩ (.int .u32 s.addr)).setCell ⟨b, 2, none⟩ (.int .i64 s.kind)
theorem SyAt.lt {w : World} {b : Nat} {s : Sy} (h : SyAt w b s) : b < w.heap.size := World.block_lt_of_cell? _ _ h.1
theorem SyAt.ext {w w' : World} {b : Nat} {s : Sy} (h : SyAt w b s) (he : Ext w w') : SyAt w' b s :=
  ⟨he.cell h.1, he.cell h.2.1, he.cell h.2.2.1, fun i => (he.frozen (p := ⟨b, i, none⟩) h.lt).trans (h.2.2.2 i)⟩
theorem SyAt.new (w : World) (s : Sy) (t : TypeId) : SyAt (w.alloc (.cells #[.string s.name, .int .u32 s.addr, .int .i64 s.kind] t)) w.heap.size s :=
  ⟨by simp [go_sem], by simp [go_sem], by simp [go_sem], fun i => by simp [go_sem]⟩
theorem SyAt.put {w : World} {b : Nat} {x s : Sy} (h : SyAt w b x) : SyAt (put3 w b s) b s := by
  obtain ⟨h0, h1, h2, h3⟩ := h
  refine ⟨?_, ?_, ?_, fun i => ?_⟩
  · simp [put3, World.cell?_setCell_same, World.cell?_setCell_other, h0, h1, h2]
  · simp [put3, World.cell?_setCell_same, World.cell?_setCell_other, h0, h1, h2]
  · simp [put3, World.cell?_setCell_same, World.cell?_setCell_other, h0, h1, h2]
  · simp [put3, h3]
theorem SyAt.putO {w : World} {b c : Nat} {x s : Sy} (h : SyAt w b x) (hne : b ≠ c) : SyAt (put3 w c s) b x := by
  obtain ⟨h0, h1, h2, h3⟩ := h
  refine ⟨?_, ?_, ?_, fun i => ?_⟩
  · simp [put3, World.cell?_setCell_other, h0, hne, Ne.symm hne]
  · simp [put3, World.cell?_setCell_other, h1, hne, Ne.symm hne]
  · simp [put3, World.cell?_setCell_other, h2, hne, Ne.symm hne]
  · simp [put3, h3]
theorem ext_put3 {w0 w : World} {b : Nat} {s : Sy} (h : Ext w0 w) (hb : w0.heap.size ≤ b) : Ext w0 (put3 w b s) := ((h.setCell hb _).setCell hb _).setCell hb _
theorem sl_put3 {E : Type} {R : Rep E} {w : World} {S : Nat → Prop} {v : Value} {l : List E} {b : Nat} {s : Sy} (h : Sl R w S v l) (hS : ∀ c, S c → c ≠ b) : Sl R (put3 w b s) S v l :=
  h.keep fun c hc _ => by rw [put3, Below.heap_setCell _ _ _ c (hS c hc), Below.heap_setCell _ _ _ c (hS c hc), Below.heap_setCell _ _ _ c (hS c hc)]
end Go.Proofs.Ytnlofhbimfcejaa
