/- slices.Sort at uint32 on a slice that the call owns. -/
import Derived.Test.YtekilcnkinmakaaDoorSrtG
import Derived.Sort.OwnSortedInts
namespace Go.Proofs.YtekilcnkinmakaaDoor
open Go.RowKit Go.Deco Go.Sort

theorem holds_of_blockU {w : World} {g : Nat} {cur : Array Value} {e : TypeId} {ss : List Int} (hb : w.heap[g]? = some (.cells cur e (0, 0))) (ht : cur.toList.take ss.length = ss.map encU) : Holds encU w g 0 ss.toArray := by
  intro j hj
  have hj' : j < ss.length := by simpa using hj
  refine ⟨?_, by simp [World.frozen?, hb]⟩
  have h1 : (cur.toList.take ss.length)[j]? = (ss.map encU)[j]? := by rw [ht]
  rw [List.getElem?_take_of_lt hj'] at h1
  simp only [World.cell?, hb, Nat.zero_add]
  simp only [Option.isSome_none, Bool.false_eq_true, if_false]
  rw [← Array.getElem?_toList, h1]
  simp [hj']

theorem heap_sortedU {w : World} {g n : Nat} {os : Array Obj} {cur : Array Value} {e : TypeId} {fr : Nat × Nat} (d : Array Int) (hb : w.heap[g]? = some (.cells cur e fr)) :
    (grow (putRow encU (Sort.ahead w n) g 0 d) os).heap[g]? = some (.cells (putCells encU 0 d cur) e fr) := by
  have hg : g < w.heap.size := (Array.getElem?_eq_some_iff.1 hb).1
  rw [heap_grow_old _ _ (by simpa using hg)]
  simp [putRow, mapBlock, Sort.ahead, Array.getElem?_modify, hb, onCells]

theorem grownBy_sortedU {w : World} {g n : Nat} {os : Array Obj} (d : Array Int) : w.grownBy (grow (putRow encU (Sort.ahead w n) g 0 d) os) (some g) := by
  refine ⟨rfl, rfl, rfl, by simp, fun k hk hne => ?_⟩
  rw [heap_grow_old _ _ (by simpa using hk)]
  have : g ≠ k := fun e => hne (by rw [e])
  simp [putRow, mapBlock, Sort.ahead, Array.getElem?_modify, this]

theorem take_putCellsU (cur : Array Value) (ts : List Int) (h : ts.length ≤ cur.size) : (putCells encU 0 ts.toArray cur).toList.take ts.length = ts.map encU := by
  apply List.ext_getElem?
  intro j
  by_cases hj : j < ts.length
  · rw [List.getElem?_take_of_lt hj, Array.getElem?_toList]
    simp [putCells, hj, show j < cur.size by omega]
  · rw [List.getElem?_take_eq_none (by omega), List.getElem?_eq_none (by simp; omega)]

theorem ownsRow_sortedU {w : World} {base g cap n : Nat} {e : TypeId} {os : Array Obj} {cur : Array Value} {ss ts : List Int} (hl : ts.length = ss.length) (hbase : base ≤ g) (hb : w.heap[g]? = some (.cells cur e (0, 0)))
    (h1 : ss.length ≤ cap) (h2 : cap ≤ maxLen) (h3 : cur.size = cap * 1) :
    (grow (putRow encU (Sort.ahead w n) g 0 ts.toArray) os).ownsRow base e 1 (.slice (some ⟨g, 0, none⟩) ss.length cap) ss.length (ts.map encU) :=
  ⟨by simp [hl], .inr ⟨g, cap, _, rfl, hbase, heap_sortedU _ hb, h1, h2, by simp [putCells, h3], by rw [Nat.mul_one, ← hl]; exact take_putCellsU cur ts (by omega)⟩⟩

/-- The list in ascending order. -/
def sorted32 (l : List Nat) : List Nat := l.mergeSort fun x y => decide (x ≤ y)
theorem sorted32_length (l : List Nat) : (sorted32 l).length = l.length := List.length_mergeSort _
theorem sorted32_mem {l : List Nat} {a : Nat} : a ∈ sorted32 l ↔ a ∈ l := List.mem_mergeSort
theorem sorted32_lt {l : List Nat} (h : l.Nodup) : (sorted32 l).Pairwise (· < ·) := by
  have h1 : (sorted32 l).Pairwise (fun a b => decide (a ≤ b) = true) := List.pairwise_mergeSort (fun a b c h1 h2 => by simp at h1 h2 ⊢; omega) (fun a b => by simp; omega) l
  have h2 : (sorted32 l).Nodup := (List.mergeSort_perm l _).nodup_iff.2 h
  exact (h1.and h2).imp fun {a b} ⟨h1, h2⟩ => by simp at h1; omega
theorem sorted32_int (l : List Nat) : ((l.map (fun x : Nat => (x : Int))).mergeSort fun x y => decide (x ≤ y)) = (sorted32 l).map (fun x : Nat => (x : Int)) := by
  rw [sorted32, List.map_mergeSort]
  intro a _ b _
  exact decide_eq_decide.2 (by omega)

theorem lt_length : ∀ (l : List Nat) (b N : Nat), l.Pairwise (· < ·) → (∀ x ∈ l, b ≤ x ∧ x < N) → l.length ≤ N - b
  | [], b, N, _, _ => by simp
  | x :: r, b, N, h, hx => by
    rw [List.pairwise_cons] at h
    have h1 := hx x List.mem_cons_self
    have := lt_length r (x + 1) N h.2 fun y hy => ⟨h.1 y hy, (hx y (List.mem_cons_of_mem _ hy)).2⟩
    rw [List.length_cons]
    omega
theorem nodup_length {l : List Nat} {N : Nat} (h : l.Nodup) (hN : ∀ x ∈ l, x < N) : l.length ≤ N := by
  have := lt_length (sorted32 l) 0 N (sorted32_lt h) fun x hx => ⟨Nat.zero_le _, hN x (sorted32_mem.1 hx)⟩
  rw [sorted32_length] at this
  omega

theorem sort_own {w : World} {base : Nat} {T : Nat → Prop} {A : Option Addr} {c : Nat} {l : List Nat} (h : OwnS u32R w base 23 T (.slice A l.length c) l) (hlen : l.length < 4611686018427387904) :
    Calls Tryd.prog 34 #[.slice A l.length c] w fun e w' => e = .returned (.tuple #[]) ∧ OwnS u32R w' base 23 T (.slice A l.length c) (sorted32 l) ∧ w.grownBy w' (Value.slice A l.length c).ownBlock := by
  by_cases h0 : l = []
  · subst h0
    refine (Z.Sort_unil A c w).mono ?_
    rintro e w' ⟨rfl, rfl⟩
    have e0 : sorted32 [] = [] := by simp [sorted32]
    rw [e0]
    exact ⟨rfl, h, (Ext.refl _).grownBy _⟩
  · obtain ⟨xs, ho, hc⟩ := h
    obtain ⟨rfl, hlt⟩ := chunks_num.1 hc
    rcases ho.2 with ⟨hv, hn⟩ | ⟨g, cap, cur, hv, hg, hb, h1, h2, h3, h4⟩
    · exact absurd (List.eq_nil_of_length_eq_zero hn) h0
    cases hv
    have h4' : cur.toList.take (l.map (fun x : Nat => (x : Int))).length = (l.map (fun x : Nat => (x : Int))).map encU := by
      rw [List.length_map, List.map_map]
      have : l.length * (numR .u32 4294967296).size = l.length := by simp [numR]
      rw [this] at h4
      exact h4
    have hs := Z.slices_Sort g 0 c (l.map (fun x : Nat => (x : Int))) w (holds_of_blockU hb h4') (Array.getElem?_eq_some_iff.1 hb).1 (by
      rw [List.length_map]
      exact hlen)
    rw [List.length_map] at hs
    refine hs.mono ?_
    rintro e w' ⟨rfl, n, os, rfl⟩
    rw [sorted32_int]
    refine ⟨rfl, ⟨_, ?_, chunks_num.2 ⟨rfl, fun x hx => hlt x (sorted32_mem.1 hx)⟩⟩, grownBy_sortedU _⟩
    have := ownsRow_sortedU (w := w) (base := base) (g := g) (cap := c) (n := n) (e := 23) (os := os) (cur := cur) (ss := l.map (fun x : Nat => (x : Int))) (ts := (sorted32 l).map (fun x : Nat => (x : Int))) (by simp [sorted32_length]) hg hb (by simpa using h1) h2 h3
    rw [List.length_map, List.map_map] at this
    rw [sorted32_length]
    exact this
end Go.Proofs.YtekilcnkinmakaaDoor
