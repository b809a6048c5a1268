/- Ascending lists of numbers without duplicates. No walk. -/
import Derived.Test.YtekilcnkinmakaaDoorInsA
namespace Go.Proofs.YtekilcnkinmakaaDoor
open Go.RowKit Go.Deco
set_option linter.unusedVariables false

theorem ins_mem : ∀ (l : List Nat) (x a : Nat), a ∈ insOf l x ↔ a = x ∨ a ∈ l
  | [], x, a => by simp [insOf]
  | y :: r, x, a => by
    rw [insOf]
    split
    · rw [List.mem_cons, ins_mem r x a, List.mem_cons]
      constructor
      · rintro (h | h | h)
        · exact .inr (.inl h)
        · exact .inl h
        · exact .inr (.inr h)
      · rintro (h | h | h)
        · exact .inr (.inl h)
        · exact .inl h
        · exact .inr (.inr h)
    · split
      · subst_vars
        simp
      · simp
theorem ins_asc : ∀ {l : List Nat} {x : Nat}, l.Pairwise (· < ·) → (insOf l x).Pairwise (· < ·)
  | [], x, _ => by simp [insOf]
  | y :: r, x, h => by
    rw [List.pairwise_cons] at h
    rw [insOf]
    split
    · rename_i hyx
      rw [List.pairwise_cons]
      refine ⟨fun a ha => ?_, ins_asc h.2⟩
      rcases (ins_mem r x a).1 ha with rfl | h1
      · exact hyx
      · exact h.1 a h1
    · split
      · exact List.pairwise_cons.2 h
      · rw [List.pairwise_cons]
        refine ⟨fun a ha => ?_, List.pairwise_cons.2 h⟩
        rcases List.mem_cons.1 ha with rfl | h1
        · omega
        · have := h.1 a h1
          omega
/-- Two ascending lists with the same elements. -/
theorem pw_ext : ∀ {l m : List Nat}, l.Pairwise (· < ·) → m.Pairwise (· < ·) → (∀ a, a ∈ l ↔ a ∈ m) → l = m
  | [], [], _, _, _ => rfl
  | [], y :: r, _, _, h => absurd ((h y).2 (by simp)) (by simp)
  | x :: l, [], _, _, h => absurd ((h x).1 (by simp)) (by simp)
  | x :: l, y :: m, hl, hm, h => by
    rw [List.pairwise_cons] at hl hm
    have e : x = y := by
      rcases List.mem_cons.1 ((h x).1 (by simp)) with h1 | h1
      · exact h1
      · rcases List.mem_cons.1 ((h y).2 (by simp)) with h2 | h2
        · exact h2.symm
        · have := hm.1 x h1
          have := hl.1 y h2
          omega
    subst e
    congr 1
    refine pw_ext hl.2 hm.2 fun a => ⟨fun ha => ?_, fun ha => ?_⟩
    · rcases List.mem_cons.1 ((h a).1 (List.mem_cons_of_mem _ ha)) with h1 | h1
      · have := hl.1 a ha
        omega
      · exact h1
    · rcases List.mem_cons.1 ((h a).2 (List.mem_cons_of_mem _ ha)) with h1 | h1
      · have := hm.1 a ha
        omega
      · exact h1

/-- The numbers of a list, ascending, none twice. -/
def asc (l : List Nat) : List Nat := l.foldl insOf []
theorem foldl_ins_mem : ∀ (l acc : List Nat) (a : Nat), a ∈ l.foldl insOf acc ↔ a ∈ l ∨ a ∈ acc
  | [], acc, a => by simp
  | x :: l, acc, a => by
    rw [List.foldl_cons, foldl_ins_mem l, ins_mem, List.mem_cons]
    constructor
    · rintro (h | h | h)
      · exact .inl (.inr h)
      · exact .inl (.inl h)
      · exact .inr h
    · rintro ((h | h) | h)
      · exact .inr (.inl h)
      · exact .inl h
      · exact .inr (.inr h)
theorem foldl_ins_asc : ∀ (l : List Nat) {acc : List Nat}, acc.Pairwise (· < ·) → (l.foldl insOf acc).Pairwise (· < ·)
  | [], _, h => h
  | x :: l, _, h => foldl_ins_asc l (ins_asc h)
theorem foldl_ins_len : ∀ (l acc : List Nat), (l.foldl insOf acc).length ≤ l.length + acc.length
  | [], acc => by simp
  | x :: l, acc => by
    have h1 := foldl_ins_len l (insOf acc x)
    have h2 := insOf_length acc x
    rw [List.foldl_cons, List.length_cons]
    omega
theorem asc_mem {l : List Nat} {a : Nat} : a ∈ asc l ↔ a ∈ l := by
  rw [asc, foldl_ins_mem]
  simp
theorem asc_pw (l : List Nat) : (asc l).Pairwise (· < ·) := foldl_ins_asc l List.Pairwise.nil
theorem asc_of {l m : List Nat} (h : m.Pairwise (· < ·)) (hm : ∀ a, a ∈ m ↔ a ∈ l) : m = asc l := pw_ext h (asc_pw l) fun a => (hm a).trans asc_mem.symm
theorem asc_eq {l m : List Nat} (hm : ∀ a, a ∈ m ↔ a ∈ l) : asc m = asc l := asc_of (asc_pw m) fun a => asc_mem.trans (hm a)
theorem asc_snoc (l : List Nat) (x : Nat) : asc (l ++ [x]) = insOf (asc l) x := by simp [asc]
theorem asc_len (l : List Nat) : (asc l).length ≤ l.length := by
  have := foldl_ins_len l []
  simpa [asc] using this
theorem asc_nil : asc [] = [] := rfl
theorem asc_self {l : List Nat} (h : l.Pairwise (· < ·)) : asc l = l := (asc_of h fun _ => Iff.rfl).symm
theorem pw_nodup {l : List Nat} (h : l.Pairwise (· < ·)) : l.Nodup := h.imp fun h => by omega
theorem asc_lt {l : List Nat} {n : Nat} (h : ∀ x ∈ l, x < n) : ∀ x ∈ asc l, x < n := fun x hx => h x (asc_mem.1 hx)

/-- A list without duplicates inside another. -/
theorem nodup_sub_len : ∀ {L E : List Nat}, L.Nodup → (∀ x ∈ L, x ∈ E) → L.length ≤ E.length
  | [], E, _, _ => by simp
  | y :: L, E, h, hs => by
    rw [List.nodup_cons] at h
    have hy : y ∈ E := hs y (by simp)
    have h1 := nodup_sub_len (L := L) (E := E.erase y) h.2 fun x hx => (List.mem_erase_of_ne (fun e => h.1 (by rw [← e]; exact hx))).2 (hs x (by simp [hx]))
    rw [List.length_erase_of_mem hy] at h1
    have := List.length_pos_of_mem hy
    rw [List.length_cons]
    omega
theorem nodup_sub_all {L E : List Nat} (h : L.Nodup) (hs : ∀ x ∈ L, x ∈ E) (hl : E.length ≤ L.length) : ∀ x ∈ E, x ∈ L := by
  intro x hx
  apply Classical.byContradiction
  intro hn
  have := nodup_sub_len (L := x :: L) (E := E) (List.nodup_cons.2 ⟨hn, h⟩) (fun y hy => by
    rcases List.mem_cons.1 hy with rfl | hy
    · exact hx
    · exact hs y hy)
  rw [List.length_cons] at this
  omega
end Go.Proofs.YtekilcnkinmakaaDoor
