/- MemoryScript: the walk of the statement. -/
import Derived.Test.YtjfdbfbdkjfgpaaSame
import Derived.Test.YtjfdbfbdkjfgpaaFops
namespace Go.Proofs.Ytjfdbfbdkjfgpaa
open Go.RowKit Go.Deco
set_option linter.unusedSimpArgs false
set_option linter.unusedVariables false

/-- What the reference's cells obey. -/
structure CellsOk (regs : List Reg) (cs : List (Nat × Nat)) (M : Nat → Option Nat) (b : Nat) : Prop where
  look : lookIn cs = M
  asc : AscC cs
  keys : ∀ p ∈ cs, findReg regs p.1 ≠ none
  len : cs.length ≤ b
theorem CellsOk.next {l : List Sec} (h0 : secCheck l = 0) {cs : List (Nat × Nat)} {M : Nat → Option Nat} {b : Nat} (h : CellsOk (regsOf l) cs M b) (kind q : Int) (a x : Nat) :
    CellsOk (regsOf l) (kindCells (regsOf l) cs kind q a x) (kindMap (regsOf l) M kind q a x) (b + 4) := by
  by_cases hk : kind = 2
  · rw [kindCells, kindMap, if_pos hk, if_pos hk]
    refine ⟨?_, ?_, ?_, ?_⟩
    · rw [storeCells_look h.asc, h.look]
    · rw [storeCells]
      split
      · exact insMany_asc h.asc a x _
      · exact h.asc
    · intro p hp
      rw [storeCells] at hp
      split at hp
      · rename_i hs
        rcases insMany_mem cs a x _ p hp with h1 | h1
        · exact h.keys p h1
        · obtain ⟨r, hw, hr, _⟩ := store_ok hs
          have hp2 := mapped_part (disj_regs h0) (d := p.1 - a) (k := 1) hr (by omega) (by omega)
          rw [show a + (p.1 - a) = p.1 by omega] at hp2
          rw [(mappedReg_some hp2).1]
          simp
      · exact h.keys p hp
    · rw [storeCells]
      split
      · rename_i hs
        obtain ⟨r, hw, hr, _⟩ := store_ok hs
        have := insMany_length cs a x q.toNat
        have := h.len
        omega
      · have := h.len
        omega
  · rw [kindCells, kindMap, if_neg hk, if_neg hk]
    exact ⟨h.look, h.asc, h.keys, by have := h.len; omega⟩
theorem CellsOk.start (regs : List Reg) : CellsOk regs [] (fun _ => none) 0 := ⟨rfl, List.Pairwise.nil, fun p hp => by simp at hp, by simp⟩

/-- The state of both memories between two calls: base world w2, the variable of the reference's memory in block g. -/
structure Both (w2 wr : World) (mb bm g : Nat) (l : List Sec) (LA : Option Addr) (lc : Nat) (CA : Option Addr) (cd : Nat) (cs : List (Nat × Nat)) (M : Nat → Option Nat) (nm : Nat) : Prop where
  mem : Mem wr mb bm (regsOf l) M nm
  old : ∀ b, b < w2.heap.size → b ≠ bm → wr.heap[b]? = w2.heap[b]?
  b0 : wr.cell? ⟨g, 0, none⟩ = some (.bool true)
  b1 : wr.cell? ⟨g, 1, none⟩ = some (.slice LA l.length lc)
  b2 : wr.cell? ⟨g, 2, none⟩ = some (.slice CA cs.length cd)
  fz : ∀ j, wr.frozen? ⟨g, j, none⟩ = false
  secs : Sl secR wr (fun b => b < w2.heap.size) (.slice LA l.length lc) l
  cells : Sl cellR wr (fun b => b ≠ g) (.slice CA cs.length cd) cs
  ok : CellsOk (regsOf l) cs M nm
theorem Both.glt {w2 wr : World} {mb bm g : Nat} {l : List Sec} {LA : Option Addr} {lc : Nat} {CA : Option Addr} {cd : Nat} {cs : List (Nat × Nat)} {M : Nat → Option Nat} {nm : Nat} (h : Both w2 wr mb bm g l LA lc CA cd cs M nm) : g < wr.heap.size :=
  World.block_lt_of_cell? _ _ h.b0
/-- After one more call, its answer stored in the variable. -/
theorem Both.next {w2 wr w' : World} {mb bm g n2 : Nat} {l : List Sec} {LA : Option Addr} {lc : Nat} {CA : Option Addr} {cd : Nat} {cs : List (Nat × Nat)} {M M2 : Nat → Option Nat} {nm : Nat} (h : Both w2 wr mb bm g l LA lc CA cd cs M nm) (hg : g = w2.heap.size) (hbm : bm < w2.heap.size)
    (h2 : Mem w2 mb bm (regsOf l) M2 n2) (hgr : wr.grownBy w' (some bm)) {M' : Nat → Option Nat} {n' : Nat} (hm : Mem w' mb bm (regsOf l) M' n') {CA' : Option Addr} {cd' : Nat} {cs' : List (Nat × Nat)}
    (hc : Sl cellR w' (fun b => b ≠ g ∨ wr.heap.size ≤ b) (.slice CA' cs'.length cd') cs') (hok : CellsOk (regsOf l) cs' M' n') :
    Both w2 (((w'.setCell ⟨g, 0, none⟩ (.bool true)).setCell ⟨g, 1, none⟩ (.slice LA l.length lc)).setCell ⟨g, 2, none⟩ (.slice CA' cs'.length cd')) mb bm g l LA lc CA' cd' cs' M' n' := by
  have hglt := h.glt
  obtain ⟨mem, old, b0, b1, b2, fz, secs, cells, ok⟩ := h
  obtain ⟨_, _, D, _, _, _, hown, _⟩ := mem
  have e0 := cell_map hown hgr b0
  have e1 := cell_map hown hgr b1
  have e2 := cell_map hown hgr b2
  have hs' : wr.heap.size ≤ w'.heap.size := hgr.size
  have hfz : ∀ j, w'.frozen? ⟨g, j, none⟩ = false := fun j => (World.frozen?_of_block (hgr.block g hglt (by simp; omega))).trans (fz j)
  have hb : ∀ b, b ≠ g → (((w'.setCell ⟨g, 0, none⟩ (.bool true)).setCell ⟨g, 1, none⟩ (.slice LA l.length lc)).setCell ⟨g, 2, none⟩ (.slice CA' cs'.length cd')).heap[b]? = w'.heap[b]? := fun b hb => by
    rw [Below.heap_setCell _ _ _ _ (by simpa using hb), Below.heap_setCell _ _ _ _ (by simpa using hb), Below.heap_setCell _ _ _ _ (by simpa using hb)]
  have hold : ∀ b, b < w2.heap.size → b ≠ bm → (((w'.setCell ⟨g, 0, none⟩ (.bool true)).setCell ⟨g, 1, none⟩ (.slice LA l.length lc)).setCell ⟨g, 2, none⟩ (.slice CA' cs'.length cd')).heap[b]? = w2.heap[b]? := fun b h1 h2 => by
    rw [hb b (by omega), hgr.block b (by omega) (by simpa using h2), old b h1 h2]
  refine ⟨?_, hold, ?_, ?_, ?_, fun j => by rw [frozen_set, frozen_set, frozen_set]; exact hfz j, ?_, ?_, hok⟩
  · exact MemAt.set (gr := g) h2 hm hold (grownBy_same (grownBy_same (grownBy_set _ _ _) (grownBy_set _ _ _)) (grownBy_set _ _ _)) (by omega)
  · simp [World.cell?_setCell_same, World.cell?_setCell_other, e0]
  · simp [World.cell?_setCell_same, World.cell?_setCell_other, e1]
  · simp [World.cell?_setCell_same, World.cell?_setCell_other, e2]
  · have s1 := secs.keep (w' := w') (fun b _ hb => keep_map hown hgr hb)
    exact s1.keep fun b hb' _ => hb b (by omega)
  · exact (hc.mono (S' := fun b => b ≠ g) (fun b hb _ => by rcases hb with h | h; exact h; omega)).keep fun b hb' _ => hb b hb'
/-- Behind the call, its answer in the new block gn. -/
structure After (wr wx : World) (mb bm g gn : Nat) (l : List Sec) (LA : Option Addr) (lc : Nat) (A : Option Addr) (d : Nat) (cs : List (Nat × Nat)) (M : Nat → Option Nat) (nm : Nat) : Prop where
  grow : wr.grownBy wx (some bm)
  mem : Mem wx mb bm (regsOf l) M nm
  cells : Sl cellR wx (fun b => b ≠ g ∨ wr.heap.size ≤ b) (.slice A cs.length d) cs
  c0 : wx.cell? ⟨gn, 0, none⟩ = some (.bool true)
  c1 : wx.cell? ⟨gn, 1, none⟩ = some (.slice LA l.length lc)
  c2 : wx.cell? ⟨gn, 2, none⟩ = some (.slice A cs.length d)
end Go.Proofs.Ytjfdbfbdkjfgpaa
