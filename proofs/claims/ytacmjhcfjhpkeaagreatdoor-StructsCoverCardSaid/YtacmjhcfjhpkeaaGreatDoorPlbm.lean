/- append of one element just laid, the heap's size spelled out by the walk. No program in sight. Ascending lists of numbers (the plain part of InsA and Asc). No program in sight. Groups of linked parts: what they are depends on the set of the parts alone. No program in sight. What Layout returns: chains of disjoint fields; merging it. No program in sight. string(b): what a slice of bytes reads as a string. No walk. Accesses in memory. No program in sight. Rows whose elements' cells say all. No program in sight. Rows of fields as they lie in memory (six cells): sorting them. Printed by wip/turnfs.py from the texts at symbols. Rows of fields: as raw cells and as data; sorting either is the same. No program in sight. A row of rows whose last row grows: groups of fields in memory. No program in sight. A part of a slice: what it reads as, and the law of the operation. No program in sight. -/
import Derived.Test.YtacmjhcfjhpkeaaGreatDoorPlam
import Derived.Laws.BytesString
import Derived.Laws.BytesArg
import Derived.Laws.OwnMore
namespace Go.Deco
open Go Go.RowKit
section
variable {E : Type} {R : Rep E} {base : Nat} {e : TypeId} {T : Nat → Prop} {P : Program}
theorem wpList_app1s {ops : Array Oper} {rest : List Oper} {o : Oper} {a : Act} {Q : Exit → Act → World → Prop} {W : World} {cs : List Value} {u : TypeId} (hgd : o.guard = none) (s x : Operand) (t : TypeId)
  (ho : o.op = .call { callee := .builtin .append, args := #[s, x], argTypes := #[t, t] })
  (base : Nat) (e : TypeId) (i : TypeInfo) (z : Value) (size bytes : Nat) (ht : P.underlying t = some (.slice e)) (hi : P.info? e = some i) (hz : i.zero = some z)
  (hsize : i.size = size) (hby : i.bytes = bytes) (hzs : z.cells.size = size) (R : Rep E) (hR : R.size = size)
  (v : Value) (l : List E) (hs : a.eval s = v) (hown : OwnS R W base e T v l)
  (q : Nat) (hq : W.heap.size = q) (y : E) (hx : a.eval x = .slice (some ⟨q, 0, none⟩) 1 1) (hy : R.rel W (fun b => T b ∧ some b ≠ v.ownBlock) cs y)
  (h63 : l.length + 1 ≤ 9223372036854775807) (hbytes : (l.length + 1) * bytes ≤ 140737488355328) (hbase : base ≤ W.heap.size)
  (h : ∀ A' c' W', OwnS R W' base e T (.slice A' (l.length + 1) c') (l ++ [y]) → (W.alloc (.cells cs.toArray u)).grownBy W' v.ownBlock →
   wpList P ops Q rest (a.put o.dst (.slice A' (l.length + 1) c')) W') :
  wpList P ops Q (o :: rest) a (W.alloc (.cells cs.toArray u)) := by
 subst hq
 exact wpList_app1 hgd s x t ho base e i z size bytes ht hi hz hsize hby hzs R hR v l hs hown y hx hy h63 hbytes hbase h
/-- .. and where the new slice lies. -/
theorem wpList_app1l {ops : Array Oper} {rest : List Oper} {o : Oper} {a : Act} {Q : Exit → Act → World → Prop} {W : World} {cs : List Value} {u : TypeId} (hgd : o.guard = none) (s x : Operand) (t : TypeId)
  (ho : o.op = .call { callee := .builtin .append, args := #[s, x], argTypes := #[t, t] })
  (base : Nat) (e : TypeId) (i : TypeInfo) (z : Value) (size bytes : Nat) (ht : P.underlying t = some (.slice e)) (hi : P.info? e = some i) (hz : i.zero = some z)
  (hsize : i.size = size) (hby : i.bytes = bytes) (hzs : z.cells.size = size) (R : Rep E) (hR : R.size = size)
  (v : Value) (l : List E) (hs : a.eval s = v) (hown : OwnS R W base e T v l)
  (q : Nat) (hq : W.heap.size = q) (y : E) (hx : a.eval x = .slice (some ⟨q, 0, none⟩) 1 1) (hy : R.rel W (fun b => T b ∧ some b ≠ v.ownBlock) cs y)
  (h63 : l.length + 1 ≤ 9223372036854775807) (hbytes : (l.length + 1) * bytes ≤ 140737488355328) (hbase : base ≤ W.heap.size)
  (h : ∀ A' c' W', OwnS R W' base e T (.slice A' (l.length + 1) c') (l ++ [y]) → (W.alloc (.cells cs.toArray u)).grownBy W' v.ownBlock →
   (∀ g, (Value.slice A' (l.length + 1) c').ownBlock = some g → v.ownBlock = some g ∨ W.heap.size < g) →
   wpList P ops Q rest (a.put o.dst (.slice A' (l.length + 1) c')) W') :
  wpList P ops Q (o :: rest) a (W.alloc (.cells cs.toArray u)) := by
 subst hq
 refine wpList_app hgd s x t ho base e i z size bytes ht hi hz hsize hby hzs R hR v l hs (hown.al _) ⟨W.heap.size, 0, none⟩ 1 1 [y] cs hx rfl
  (Chunks.single (R.ext ((Ext.refl W).alloc _) hy)) (new_cells W cs u) h63 hbytes (by simp; omega) fun A' c' W' h1 h2 h3 => h A' c' W' h1 h2 fun g hg => ?_
 rcases h3 with h3 | h3
 ·exact .inl (by rw [← h3]; exact hg)
 ·have h4 : some g = some (W.alloc (.cells cs.toArray u)).heap.size := hg.symm.trans h3
  injection h4 with h4
  simp at h4
  exact .inr (by omega)
end
end Go.Deco

namespace Go.Proofs.YtacmjhcfjhpkeaaGreatDoor
open Go.RowKit Go.Deco
set_option linter.unusedVariables false

/-- What Insert computes. -/
def insOf (l : List Nat) (x : Nat) : List Nat :=
 match l with
 | [] => [x]
 | y :: r => if y < x then y :: insOf r x else if y = x then y :: r else x :: y :: r
theorem insOf_length : ∀ (l : List Nat) (x : Nat), (insOf l x).length ≤ l.length + 1
 | [], x => by simp [insOf]
 | y :: r, x => by
  have := insOf_length r x
  rw [insOf]
  split
  ·simp; omega
  ·split <;> simp

theorem ins_mem : ∀ (l : List Nat) (x a : Nat), a ∈ insOf l x ↔ a = x ∨ a ∈ l
 | [], x, a => by simp [insOf]
 | y :: r, x, a => by
  rw [insOf]
  split
  ·rw [List.mem_cons, ins_mem r x a, List.mem_cons]
   constructor
   ·rintro (h | h | h)
    ·exact .inr (.inl h)
    ·exact .inl h
    ·exact .inr (.inr h)
   ·rintro (h | h | h)
    ·exact .inr (.inl h)
    ·exact .inl h
    ·exact .inr (.inr h)
  ·split
   ·subst_vars
    simp
   ·simp
theorem ins_asc : ∀ {l : List Nat} {x : Nat}, l.Pairwise (· < ·) → (insOf l x).Pairwise (· < ·)
 | [], x, _ => by simp [insOf]
 | y :: r, x, h => by
  rw [List.pairwise_cons] at h
  rw [insOf]
  split
  ·rename_i hyx
   rw [List.pairwise_cons]
   refine ⟨fun a ha => ?_, ins_asc h.2⟩
   rcases (ins_mem r x a).1 ha with rfl | h1
   ·exact hyx
   ·exact h.1 a h1
  ·split
   ·exact List.pairwise_cons.2 h
   ·rw [List.pairwise_cons]
    refine ⟨fun a ha => ?_, List.pairwise_cons.2 h⟩
    rcases List.mem_cons.1 ha with rfl | h1
    ·omega
    ·have := h.1 a h1
     omega
/-- Two ascending lists with the same elements. -/
theorem pw_ext : ∀ {l m : List Nat}, l.Pairwise (· < ·) → m.Pairwise (· < ·) → (∀ a, a ∈ l ↔ a ∈ m) → l = m
 | [], [], _, _, _ => rfl
 | [], y :: r, _, _, h => absurd ((h y).2 (by simp)) (by simp)
 | x :: l, [], _, _, h => absurd ((h x).1 (by simp)) (by simp)
 | x :: l, y :: m, hl, hm, h => by
  rw [List.pairwise_cons] at hl hm
  have e : x = y := by
   rcases List.mem_cons.1 ((h x).1 (by simp)) with h1 | h1
   ·exact h1
   ·rcases List.mem_cons.1 ((h y).2 (by simp)) with h2 | h2
    ·exact h2.symm
    ·have := hm.1 x h1
     have := hl.1 y h2
     omega
  subst e
  congr 1
  refine pw_ext hl.2 hm.2 fun a => ⟨fun ha => ?_, fun ha => ?_⟩
  ·rcases List.mem_cons.1 ((h a).1 (List.mem_cons_of_mem _ ha)) with h1 | h1
   ·have := hl.1 a ha
    omega
   ·exact h1
  ·rcases List.mem_cons.1 ((h a).2 (List.mem_cons_of_mem _ ha)) with h1 | h1
   ·have := hm.1 a ha
    omega
   ·exact h1

/-- The numbers of a list, ascending, none twice. -/
def asc (l : List Nat) : List Nat := l.foldl insOf []
theorem foldl_ins_mem : ∀ (l acc : List Nat) (a : Nat), a ∈ l.foldl insOf acc ↔ a ∈ l ∨ a ∈ acc
 | [], acc, a => by simp
 | x :: l, acc, a => by
  rw [List.foldl_cons, foldl_ins_mem l, ins_mem, List.mem_cons]
  constructor
  ·rintro (h | h | h)
   ·exact .inl (.inr h)
   ·exact .inl (.inl h)
   ·exact .inr h
  ·rintro ((h | h) | h)
   ·exact .inr (.inl h)
   ·exact .inl h
   ·exact .inr (.inr h)
theorem foldl_ins_asc : ∀ (l : List Nat) {acc : List Nat}, acc.Pairwise (· < ·) → (l.foldl insOf acc).Pairwise (· < ·)
 | [], _, h => h
 | x :: l, _, h => foldl_ins_asc l (ins_asc h)
theorem foldl_ins_len : ∀ (l acc : List Nat), (l.foldl insOf acc).length ≤ l.length + acc.length
 | [], acc => by simp
 | x :: l, acc => by
  have h1 := foldl_ins_len l (insOf acc x)
  have h2 := insOf_length acc x
  rw [List.foldl_cons, List.length_cons]
  omega
theorem asc_mem {l : List Nat} {a : Nat} : a ∈ asc l ↔ a ∈ l := by
 rw [asc, foldl_ins_mem]
 simp
theorem asc_pw (l : List Nat) : (asc l).Pairwise (· < ·) := foldl_ins_asc l List.Pairwise.nil
theorem asc_of {l m : List Nat} (h : m.Pairwise (· < ·)) (hm : ∀ a, a ∈ m ↔ a ∈ l) : m = asc l := pw_ext h (asc_pw l) fun a => (hm a).trans asc_mem.symm
theorem asc_eq {l m : List Nat} (hm : ∀ a, a ∈ m ↔ a ∈ l) : asc m = asc l := asc_of (asc_pw m) fun a => asc_mem.trans (hm a)
theorem asc_snoc (l : List Nat) (x : Nat) : asc (l ++ [x]) = insOf (asc l) x := by simp [asc]
theorem asc_len (l : List Nat) : (asc l).length ≤ l.length := by
 have := foldl_ins_len l []
 simpa [asc] using this
end Go.Proofs.YtacmjhcfjhpkeaaGreatDoor

namespace Go.Deco
open Go Go.RowKit
set_option linter.unusedSimpArgs false
set_option linter.unusedVariables false

theorem sizeT_nonneg (t : Ty) : 0 ≤ sizeT t := by
 unfold sizeT
 split
 ·exact szT_nonneg t (goodT_iff.1 ‹_›).2.1
 ·exact Int.le_refl _
theorem endF_ge (f : Fd) : f.1 ≤ endF f := by have := sizeT_nonneg f.2; unfold endF; omega
/-- The rest of the group whose end is n so far, and what is behind it. -/
def grp1 : Int → List Fd → List Fd × List Fd
 | _, [] => ([], [])
 | n, f :: l => if f.1 < n then (f :: (grp1 (max n (endF f)) l).1, (grp1 (max n (endF f)) l).2) else ([], f :: l)
def grpE : Int → List Fd → Int
 | n, [] => n
 | n, f :: l => if f.1 < n then grpE (max n (endF f)) l else n
theorem grp1_len : ∀ (l : List Fd) (n : Int), (grp1 n l).2.length ≤ l.length
 | [], _ => by simp [grp1]
 | f :: l, n => by
  rw [grp1]
  split
  ·have := grp1_len l (max n (endF f)); simp; omega
  ·simp
/-- The groups of a list in ascending order. -/
def grpR : Nat → List Fd → List (List Fd)
 | 0, _ => []
 | _, [] => []
 | k + 1, f :: l => (f :: (grp1 (endF f) l).1) :: grpR k (grp1 (endF f) l).2
theorem grpS_fold : ∀ (k : Nat) (l : List Fd) (gs : List (List Fd)) (g : List Fd) (n : Int), l.length ≤ k →
  (l.foldl grpS (gs ++ [g], n)).1 = gs ++ (g ++ (grp1 n l).1) :: grpR k (grp1 n l).2
 | k, [], gs, g, n, _ => by
  cases k <;> simp [grp1, grpR]
 | 0, f :: l, gs, g, n, h => by simp at h
 | k + 1, f :: l, gs, g, n, h => by
  rw [List.foldl_cons, grp1]
  by_cases hf : f.1 < n
  ·rw [if_pos hf]
   have e : grpS (gs ++ [g], n) f = (gs ++ [g ++ [f]], max n (endF f)) := by simp [grpS, hf]
   rw [e, grpS_fold (k + 1) l gs (g ++ [f]) _ (by simp at h; omega)]
   simp
  ·rw [if_neg hf]
   have e : grpS (gs ++ [g], n) f = ((gs ++ [g]) ++ [[f]], endF f) := by
    have := endF_ge f
    simp only [grpS, hf, and_false, if_false, Prod.mk.injEq, true_and]
    omega
   rw [e, grpS_fold k l (gs ++ [g]) [f] _ (by simp at h; omega)]
   simp [grpR]
theorem groups_rec {l : List Fd} (h0 : ∀ f ∈ l, 0 ≤ f.1) : (l.foldl grpS ([], 0)).1 = grpR l.length l := by
 cases l with
 | nil => rfl
 | cons f l =>
  rw [List.foldl_cons]
  have e : grpS ([], 0) f = ([] ++ [[f]], endF f) := by
   have := endF_ge f
   have := h0 f (List.mem_cons_self ..)
   simp [grpS]
   omega
  rw [e, grpS_fold l.length l [] [f] _ (Nat.le_refl _)]
  rfl

/-! ### the first group -/
def SrtF (l : List Fd) : Prop := l.Pairwise fun a b => a.1 ≤ b.1
theorem srtF_of {l : List Fd} (h : Srt ltF l) : SrtF l := h.imp fun {a b} h => by simp [ltF] at h; exact h
theorem grp1_app : ∀ (l : List Fd) (n : Int), (grp1 n l).1 ++ (grp1 n l).2 = l
 | [], _ => rfl
 | f :: l, n => by
  rw [grp1]
  split
  ·simp [grp1_app l]
  ·rfl
theorem grpE_ge : ∀ (l : List Fd) (n : Int), n ≤ grpE n l
 | [], _ => Int.le_refl _
 | f :: l, n => by
  rw [grpE]
  split
  ·have := grpE_ge l (max n (endF f)); omega
  ·exact Int.le_refl _
theorem grp1_in : ∀ (l : List Fd) (n : Int), ∀ x ∈ (grp1 n l).1, x.1 < grpE n l ∧ endF x ≤ grpE n l
 | [], _, x, hx => by cases hx
 | f :: l, n, x, hx => by
  rw [grp1] at hx
  rw [grpE]
  split at hx
  ·rename_i h
   rw [if_pos h]
   rcases List.mem_cons.1 hx with rfl | hx
   ·have := grpE_ge l (max n (endF x)); omega
   ·exact grp1_in l _ x hx
  ·cases hx
theorem grp1_out : ∀ (l : List Fd) (n : Int), SrtF l → ∀ x ∈ (grp1 n l).2, grpE n l ≤ x.1
 | [], _, _, x, hx => by cases hx
 | f :: l, n, hs, x, hx => by
  have hs1 := List.pairwise_cons.1 hs
  rw [grp1] at hx
  rw [grpE]
  split at hx
  ·rename_i h
   rw [if_pos h]
   exact grp1_out l _ hs1.2 x hx
  ·rename_i h
   rw [if_neg h]
   rcases List.mem_cons.1 hx with rfl | hx
   ·omega
   ·have := hs1.1 x hx; omega
theorem grpE_least : ∀ (l : List Fd) (n e : Int), n ≤ e → (∀ x ∈ l, x.1 < e → endF x ≤ e) → grpE n l ≤ e
 | [], _, _, h, _ => h
 | f :: l, n, e, h, hl => by
  rw [grpE]
  split
  ·have := hl f (List.mem_cons_self ..) (by omega)
   exact grpE_least l _ e (by omega) fun x hx => hl x (List.mem_cons_of_mem _ hx)
  ·exact h
theorem grp1_srt {l : List Fd} (n : Int) (h : SrtF l) : SrtF (grp1 n l).1 ∧ SrtF (grp1 n l).2 := by
 have h' : SrtF ((grp1 n l).1 ++ (grp1 n l).2) := by rw [grp1_app]; exact h
 exact ⟨(List.pairwise_append.1 h').1, (List.pairwise_append.1 h').2.1⟩
/-- The first group, as a set. -/
theorem grp1_set {f : Fd} {l : List Fd} (hs : SrtF (f :: l)) (hp : ∀ x ∈ f :: l, 0 < sizeT x.2) (x : Fd) :
  (x ∈ f :: (grp1 (endF f) l).1 ↔ x ∈ f :: l ∧ x.1 < grpE (endF f) l) ∧ (x ∈ (grp1 (endF f) l).2 ↔ x ∈ f :: l ∧ grpE (endF f) l ≤ x.1) := by
 have hs1 := List.pairwise_cons.1 hs
 have hf := hp f (List.mem_cons_self ..)
 have hE := grpE_ge l (endF f)
 have h0 : f.1 < grpE (endF f) l := by unfold endF at hE ⊢; omega
 have hm : x ∈ l ↔ x ∈ (grp1 (endF f) l).1 ∨ x ∈ (grp1 (endF f) l).2 := by rw [← List.mem_append, grp1_app]
 have h1 := grp1_in l (endF f) x
 have h2 := grp1_out l (endF f) hs1.2 x
 constructor
 ·constructor
  ·intro h
   rcases List.mem_cons.1 h with rfl | h
   ·exact ⟨List.mem_cons_self .., h0⟩
   ·exact ⟨List.mem_cons_of_mem _ (hm.2 (.inl h)), (h1 h).1⟩
  ·rintro ⟨h, k⟩
   rcases List.mem_cons.1 h with rfl | h
   ·exact List.mem_cons_self ..
   ·rcases hm.1 h with h | h
    ·exact List.mem_cons_of_mem _ h
    ·have := h2 h; omega
 ·constructor
  ·intro h
   exact ⟨List.mem_cons_of_mem _ (hm.2 (.inr h)), h2 h⟩
  ·rintro ⟨h, k⟩
   rcases List.mem_cons.1 h with rfl | h
   ·omega
   ·rcases hm.1 h with h | h
    ·have := (h1 h).1; omega
    ·exact h
def SameSet (l m : List Fd) : Prop := ∀ x, x ∈ l ↔ x ∈ m
theorem last_ge : ∀ (g : List Fd) (n : Int), n ≤ g.foldl (fun n f => max n (endF f)) n
 | [], n => Int.le_refl _
 | f :: g, n => by have := last_ge g (max n (endF f)); rw [List.foldl_cons]; omega
theorem last_mem : ∀ (g : List Fd) (n : Int), ∀ x ∈ g, endF x ≤ g.foldl (fun n f => max n (endF f)) n
 | f :: g, n, x, hx => by
  rw [List.foldl_cons]
  rcases List.mem_cons.1 hx with rfl | hx
  ·have := last_ge g (max n (endF x)); omega
  ·exact last_mem g _ x hx
theorem last_le : ∀ (g : List Fd) (n b : Int), n ≤ b → (∀ x ∈ g, endF x ≤ b) → g.foldl (fun n f => max n (endF f)) n ≤ b
 | [], _, _, h, _ => h
 | f :: g, n, b, h, hg => by
  rw [List.foldl_cons]
  have := hg f (List.mem_cons_self ..)
  exact last_le g _ b (by omega) fun x hx => hg x (List.mem_cons_of_mem _ hx)
theorem sameG_iff {g : List Fd} : sameG g = true ↔ ∀ x ∈ g, x = headF g := by
 unfold sameG
 rw [List.all_eq_true]
 constructor
 ·intro h x hx
  have := h x hx
  rw [Bool.and_eq_true, decide_eq_true_eq, sameT_iff] at this
  exact Prod.ext this.1 this.2
 ·intro h x hx
  rw [Bool.and_eq_true, decide_eq_true_eq, sameT_iff]
  rw [← h x hx]
  exact ⟨rfl, rfl⟩
theorem headF_mem {g : List Fd} (h : g ≠ []) : headF g ∈ g := by
 cases g with
 | nil => exact absurd rfl h
 | cons f g => exact List.mem_cons_self ..
theorem sizedG_iff {g : List Fd} (hne : g ≠ []) : sizedG g = true ↔ ∀ x ∈ g, x.1 = (headF g).1 ∧ intK x.2 = true ∧ x.2.size = (headF g).2.size := by
 unfold sizedG
 rw [Bool.and_eq_true, List.all_eq_true]
 constructor
 ·rintro ⟨_, h⟩ x hx
  have := h x hx
  rw [Bool.and_eq_true, Bool.and_eq_true, decide_eq_true_eq, decide_eq_true_eq] at this
  exact ⟨this.1.1, this.1.2, this.2⟩
 ·intro h
  refine ⟨(h _ (headF_mem hne)).2.1, fun x hx => ?_⟩
  rw [Bool.and_eq_true, Bool.and_eq_true, decide_eq_true_eq, decide_eq_true_eq]
  exact ⟨⟨(h x hx).1, (h x hx).2.1⟩, (h x hx).2.2⟩
theorem stabF_mem (p : List Fd) (x : Fd) : x ∈ stab ltF p ↔ x ∈ p := (stab_ok weakF p).2.mem weakF x
theorem groups_grpR {p : List Fd} (h0 : ∀ x ∈ p, 0 ≤ x.1) : groupsF p = grpR p.length (stab ltF p) := by
 unfold groupsF
 rw [groups_rec fun x hx => h0 x ((stabF_mem p x).1 hx), stab_len]
end Go.Deco

namespace Go.Deco
open Go Go.RowKit
set_option linter.unusedSimpArgs false
set_option linter.unusedVariables false

/-- The types of fields that Layout lays. -/
def LeafT (t : Ty) : Prop := (∃ s : Int, (s = 1 ∨ s = 2 ∨ s = 4) ∧ (t = Ty.int s ∨ t = Ty.uint s)) ∨ ∃ m : Int, 1 ≤ m ∧ m ≤ 65536 ∧ t = Ty.arr (Ty.uint 1) m
theorem sz_int (s : Int) (h : s = 1 ∨ s = 2 ∨ s = 4) : szT (Ty.int s) = s := by rcases h with rfl | rfl | rfl <;> decide
theorem sz_uint (s : Int) (h : s = 1 ∨ s = 2 ∨ s = 4) : szT (Ty.uint s) = s := by rcases h with rfl | rfl | rfl <;> decide
theorem sz_arr (t : Ty) (n : Int) : szT (Ty.arr t n) = min (n * szT t) 65537 := by simp [Ty.arr, szT, szE]
theorem sz_str (l : List Fd) : szT (Ty.str l) = min (szF 0 l) 65537 := by simp [Ty.str, szT]
theorem leaf_good {t : Ty} (h : LeafT t) : shalT t 2 = true ∧ goodT t = true ∧ 0 < sizeT t := by
 rcases h with ⟨s, hs, h⟩ | ⟨m, h1, h2, rfl⟩
 ·rcases hs with rfl | rfl | rfl <;> rcases h with rfl | rfl <;> decide
 ·have hz : szT (Ty.arr (Ty.uint 1) m) = m := by rw [sz_arr, sz_uint 1 (.inl rfl)]; omega
  have hg : goodT (Ty.arr (Ty.uint 1) m) = true := by
   rw [goodT_iff]
   refine ⟨by simp [Ty.arr, Ty.uint, shalT, shalE, shalF], ?_, ?_⟩
   ·simp [Ty.arr, Ty.uint, formT, formE, h1, h2]
   ·have : wiT (Ty.uint 1) = true := by decide
    rw [wiT_eq, hz]
    simp [Ty.arr, Ty.fields, Ty.elem, this, h2]
  refine ⟨by simp [Ty.arr, Ty.uint, shalT, shalE, shalF], hg, ?_⟩
  unfold sizeT
  rw [if_pos hg, hz]
  omega
theorem leaf_size {t : Ty} (h : LeafT t) : sizeT t = szT t := by
 unfold sizeT; rw [if_pos (leaf_good h).2.1]
theorem leaf_int {t : Ty} (h : LeafT t) (hk : intK t = true) : (t.size = 1 ∨ t.size = 2 ∨ t.size = 4) ∧ sizeT t = t.size ∧ LeafT (Ty.int t.size) := by
 rw [leaf_size h]
 rcases h with ⟨s, hs, h⟩ | ⟨m, h1, h2, rfl⟩
 ·rcases h with rfl | rfl
  ·exact ⟨hs, sz_int s hs, .inl ⟨s, hs, .inl rfl⟩⟩
  ·exact ⟨hs, sz_uint s hs, .inl ⟨s, hs, .inl rfl⟩⟩
 ·simp [intK, Ty.arr, Ty.kind] at hk
theorem leaf_arr (m : Int) (h1 : 1 ≤ m) (h2 : m ≤ 65536) : LeafT (Ty.arr (Ty.uint 1) m) ∧ sizeT (Ty.arr (Ty.uint 1) m) = m := by
 have h : LeafT (Ty.arr (Ty.uint 1) m) := .inr ⟨m, h1, h2, rfl⟩
 refine ⟨h, ?_⟩
 rw [leaf_size h, sz_arr, sz_uint 1 (.inl rfl)]
 omega
def PartL (f : Fd) : Prop := 0 ≤ f.1 ∧ LeafT f.2 ∧ endF f ≤ 65536
theorem PartL.lt {f : Fd} (h : PartL f) : f.1 < endF f := by have := (leaf_good h.2.1).2.2; unfold endF; omega
theorem part_access {a : Acc} (h : validA a = true) : PartL (partA a) := by
 simp only [validA, Bool.and_eq_true, decide_eq_true_eq] at h
 obtain ⟨⟨hw, h1⟩, h2⟩ := h
 have hl : LeafT (partA a).2 := by
  unfold partA
  cases a.sgn
  ·exact .inl ⟨a.width, hw, .inr rfl⟩
  ·exact .inl ⟨a.width, hw, .inl rfl⟩
 refine ⟨h1, hl, ?_⟩
 unfold endF
 rw [leaf_size hl]
 unfold partA
 cases a.sgn
 ·simp [sz_uint _ hw]; omega
 ·simp [sz_int _ hw]; omega
/-- Fields one behind the other. -/
def ChainF : Int → List Fd → Prop
 | _, [] => True
 | n, f :: l => n ≤ f.1 ∧ PartL f ∧ ChainF (endF f) l
theorem chain_mem : ∀ {l : List Fd} {n : Int}, ChainF n l → ∀ f ∈ l, n ≤ f.1 ∧ PartL f
 | f :: l, n, ⟨h1, h2, h3⟩, x, hx => by
  rcases List.mem_cons.1 hx with rfl | hx
  ·exact ⟨h1, h2⟩
  ·have := chain_mem h3 x hx
   exact ⟨by have := h2.lt; omega, this.2⟩

/-! ### a group's field -/
theorem group_field {f : Fd} {l : List Fd} (hs : SrtF (f :: l)) (hp : ∀ x ∈ f :: l, PartL x) :
  (fieldG (f :: (grp1 (endF f) l).1)).1.1 = f.1 ∧ endF (fieldG (f :: (grp1 (endF f) l).1)).1 = grpE (endF f) l ∧ PartL (fieldG (f :: (grp1 (endF f) l).1)).1 := by
 have hpos : ∀ x ∈ f :: l, 0 < sizeT x.2 := fun x hx => (leaf_good (hp x hx).2.1).2.2
 obtain ⟨G, hG⟩ : ∃ G, f :: (grp1 (endF f) l).1 = G := ⟨_, rfl⟩
 have hin : ∀ x ∈ f :: l, x.1 < grpE (endF f) l → x ∈ G := fun x hx h => by rw [← hG]; exact ((grp1_set hs hpos x).1).2 ⟨hx, h⟩
 have hsub : ∀ x ∈ G, x ∈ f :: l ∧ x.1 < grpE (endF f) l := fun x hx => by rw [← hG] at hx; exact ((grp1_set hs hpos x).1).1 hx
 have hE := grpE_ge l (endF f)
 have hf := hp f (List.mem_cons_self ..)
 have hflt := hf.lt
 have hhead : headF G = f := by rw [← hG]; rfl
 have hfG : f ∈ G := by rw [← hG]; exact List.mem_cons_self ..
 have hne : G ≠ [] := fun e => by rw [e] at hfG; cases hfG
 have hends : ∀ x ∈ G, endF x ≤ grpE (endF f) l := fun x hx => by
  rw [← hG] at hx
  rcases List.mem_cons.1 hx with rfl | hx
  ·exact hE
  ·exact (grp1_in _ _ x hx).2
 -- the end, where no part of the group ends behind n
 have hleast : ∀ n, endF f ≤ n → n ≤ grpE (endF f) l → (∀ x ∈ G, endF x ≤ n) → grpE (endF f) l = n := by
  intro n h1 h2 h3
  have := grpE_least l (endF f) n h1 fun x hx h => h3 x (hin x (List.mem_cons_of_mem _ hx) (by omega))
  omega
 rw [hG]
 unfold fieldG
 by_cases h1 : sameG G = true
 ·rw [if_pos h1, hhead]
  have h2 := sameG_iff.1 h1
  rw [hhead] at h2
  exact ⟨rfl, (hleast (endF f) (Int.le_refl _) hE fun x hx => by rw [h2 x hx]; exact Int.le_refl _).symm, hf⟩
 ·rw [if_neg h1]
  by_cases h2 : sizedG G = true
  ·rw [if_pos h2, hhead]
   have h3 := (sizedG_iff hne).1 h2
   rw [hhead] at h3
   have hl := leaf_int hf.2.1 (h3 f hfG).2.1
   have hi := leaf_int hl.2.2 (by rfl)
   have he : endF (f.1, Ty.int f.2.size) = endF f := by
    unfold endF
    rw [hi.2.1, hl.2.1]
    rfl
   refine ⟨rfl, ?_, hf.1, hl.2.2, by rw [he]; exact hf.2.2⟩
   rw [he]
   refine (hleast (endF f) (Int.le_refl _) hE fun x hx => ?_).symm
   have hx1 := h3 x hx
   have hxl := leaf_int (hp x (hsub x hx).1).2.1 hx1.2.1
   unfold endF
   rw [hxl.2.1, hl.2.1, hx1.1, hx1.2.2]
   exact Int.le_refl _
  ·rw [if_neg h2, hhead]
   have hlast : lastF G = grpE (endF f) l := (hleast (lastF G) (last_mem G 0 f hfG) (last_le G 0 _ (by have := hf.1; omega) hends) fun x hx => last_mem G 0 x hx).symm
   have hbd : lastF G ≤ 65536 := last_le G 0 _ (by omega) fun x hx => (hp x (hsub x hx).1).2.2
   have ha := leaf_arr (lastF G - f.1) (by have := last_mem G 0 f hfG; unfold lastF; omega) (by have := hf.1; omega)
   refine ⟨rfl, ?_, hf.1, ha.1, ?_⟩
   ·rw [← hlast]
    unfold endF
    rw [ha.2]
    simp
    omega
   ·unfold endF
    rw [ha.2]
    simp
    omega
theorem flds_chain : ∀ (k : Nat) (l : List Fd) (n : Int), l.length ≤ k → SrtF l → (∀ x ∈ l, n ≤ x.1 ∧ PartL x) → ChainF n ((grpR k l).map fun g => (fieldG g).1)
 | k, [], n, _, _, _ => by cases k <;> exact trivial
 | 0, f :: l, n, h, _, _ => by simp at h
 | k + 1, f :: l, n, h, hs, hp => by
  have hp1 : ∀ x ∈ f :: l, PartL x := fun x hx => (hp x hx).2
  have hpos : ∀ x ∈ f :: l, 0 < sizeT x.2 := fun x hx => (leaf_good (hp1 x hx).2.1).2.2
  obtain ⟨h1, h2, h3⟩ := group_field hs hp1
  have hl := grp1_len l (endF f)
  rw [grpR, List.map_cons, ChainF]
  refine ⟨by rw [h1]; exact (hp f (List.mem_cons_self ..)).1, h3, ?_⟩
  rw [h2]
  refine flds_chain k _ _ (by simp at h; omega) (grp1_srt (endF f) (List.pairwise_cons.1 hs).2).2 fun x hx => ?_
  have := ((grp1_set hs hpos x).2).1 hx
  exact ⟨this.2, hp1 x this.1⟩
def fieldsF (p : List Fd) : List Fd := (groupsF p).map fun g => (fieldG g).1
theorem fields_chain {p : List Fd} (hp : ∀ x ∈ p, PartL x) : ChainF 0 (fieldsF p) := by
 unfold fieldsF
 rw [groups_grpR fun x hx => (hp x hx).1]
 refine flds_chain _ _ _ (by rw [stab_len]; exact Nat.le_refl _) (srtF_of (stab_ok weakF p).1) fun x hx => ?_
 have := hp x ((stabF_mem p x).1 hx)
 exact ⟨this.1, this⟩
/-! ### the types that are laid are well-formed -/
theorem shal_leaf {t : Ty} (h : LeafT t) {n : Int} (hn : 2 ≤ n) : shalT t n = true := by
 rcases h with ⟨s, hs, h⟩ | ⟨m, h1, h2, rfl⟩
 ·rcases h with rfl | rfl <;> simp [Ty.int, Ty.uint, shalT, shalE, shalF] <;> omega
 ·simp [Ty.arr, Ty.uint, shalT, shalE, shalF]; omega
theorem chain_form : ∀ {l : List Fd} {n p : Int}, p < n → ChainF n l → formF p l = true
 | [], _, _, _, _ => rfl
 | (o, t) :: l, n, p, hpn, ⟨h1, h2, h3⟩ => by
  have hg := (goodT_iff.1 (leaf_good h2.2.1).2.1).2.1
  have hlt := h2.lt
  have hb := h2.2.2
  simp only at h1 hg hlt hb
  rw [formF, hg, chain_form (p := o) hlt h3]
  simp
  omega
theorem chain_good {l : List Fd} (h : ChainF 0 l) (hl : l.length ≤ 64) : chkT (Ty.str l) = 0 := by
 have hm := chain_mem h
 rw [chkT_zero]
 refine ⟨?_, ?_, ?_⟩
 ·rw [shalT_eq]
  simp only [Ty.str, Ty.elem, Ty.fields, List.all_nil, Bool.true_and, Bool.and_eq_true, decide_eq_true_eq, List.all_eq_true]
  exact ⟨by omega, fun f hf => shal_leaf (hm f hf).2.2.1 (by omega)⟩
 ·simp [Ty.str, formT, chain_form (p := -1) (by omega) h]
 ·rw [wiT_eq, sz_str]
  have hb : szF 0 l ≤ 65536 := szF_bound l 0 _ (by omega) fun f hf => by
   have := (hm f hf).2
   have h2 := this.2.2
   unfold endF at h2
   rw [leaf_size this.2.1] at h2
   exact h2
  have hw : (l.all fun f => wiT f.2) = true := by
   rw [List.all_eq_true]
   intro f hf
   exact (goodT_iff.1 (leaf_good (hm f hf).2.2.1).2.1).2.2
  simp [Ty.str, Ty.fields, Ty.elem, hl, hw]
  omega
theorem arr_good {x : Ty} {n : Int} (hx : LeafT x) (h1 : 1 ≤ n) (h2 : n * sizeT x ≤ 65536) : chkT (Ty.arr x n) = 0 := by
 obtain ⟨_, hg, hp⟩ := leaf_good hx
 rw [leaf_size hx] at h2 hp
 have hn : n ≤ 65536 := by
  have := Int.mul_le_mul_of_nonneg_left (show 1 ≤ szT x by omega) (show 0 ≤ n by omega)
  omega
 rw [chkT_zero]
 refine ⟨?_, ?_, ?_⟩
 ·rw [shalT_eq]
  simp [Ty.arr, Ty.elem, Ty.fields, shal_leaf hx]
 ·simp [Ty.arr, formT, formE, (goodT_iff.1 hg).2.1, h1, hn]
 ·rw [wiT_eq, sz_arr]
  simp [Ty.arr, Ty.elem, Ty.fields, (goodT_iff.1 hg).2.2]
  omega

/-! ### rows -/
theorem rowFrom_last : ∀ {l : List Fd} {t : Ty} {n : Int}, rowFrom t n l = true → (∀ f ∈ l, f.2 = t) ∧ (l = [] ∨ ∃ f ∈ l, endF f = n + l.length * sizeT t)
 | [], _, _, _ => ⟨fun f hf => (nomatch hf), .inl rfl⟩
 | f :: l, t, n, h => by
  simp only [rowFrom, Bool.and_eq_true, decide_eq_true_eq, sameT_iff] at h
  obtain ⟨⟨h1, h2⟩, h3⟩ := h
  obtain ⟨h4, h5⟩ := rowFrom_last h3
  refine ⟨fun g hg => ?_, .inr ?_⟩
  ·rcases List.mem_cons.1 hg with rfl | hg
   ·exact h2
   ·exact h4 g hg
  ·rcases h5 with rfl | ⟨g, hg, e⟩
   ·refine ⟨f, List.mem_cons_self .., ?_⟩
    unfold endF
    rw [h1, h2]
    simp
   ·refine ⟨g, List.mem_cons_of_mem _ hg, ?_⟩
    rw [e]
    unfold endF
    rw [h1, h2, List.length_cons]
    rw [Int.natCast_succ, Int.add_mul]
    omega
/-- What Layout returns. -/
def LaidT (t : Ty) : Prop := (∃ l, t = Ty.str l ∧ ChainF 0 l ∧ l.length ≤ 64 ∧ rowF l = false) ∨ ∃ x n, t = Ty.arr x n ∧ LeafT x ∧ 2 ≤ n ∧ n ≤ 64 ∧ n * sizeT x ≤ 65536
theorem arrange_laid {p : List Fd} (hp : ∀ x ∈ p, PartL x) {t : Ty} (h : arrangeF p = (t, 0)) : LaidT t := by
 have hc := fields_chain hp
 unfold arrangeF at h
 simp only at h
 change (if 64 < (fieldsF p).length then (Ty.unk, 6) else if rowF (fieldsF p) then (Ty.arr (headF (fieldsF p)).2 (fieldsF p).length, 0) else (Ty.str (fieldsF p), 0)) = (t, 0) at h
 obtain ⟨F, hF⟩ : ∃ F, fieldsF p = F := ⟨_, rfl⟩
 rw [hF] at h hc
 split at h
 ·cases h
 ·split at h
  ·rename_i h64 hr
   injection h with h _
   subst h
   rw [rowF, Bool.and_eq_true, decide_eq_true_eq] at hr
   obtain ⟨h1, h2⟩ := rowFrom_last hr.2
   have hne : F ≠ [] := fun e => by rw [e] at hr; simp at hr
   have hm := chain_mem hc
   have hh := (hm _ (headF_mem hne)).2
   refine .inr ⟨_, _, rfl, hh.2.1, by omega, by omega, ?_⟩
   rcases h2 with rfl | ⟨f, hf, e⟩
   ·exact absurd rfl hne
   ·have := (hm f hf).2.2.2
    omega
  ·rename_i h64 hr
   injection h with h _
   subst h
   exact .inl ⟨F, rfl, hc, by omega, by simpa using hr⟩
theorem laid_good {t : Ty} (h : LaidT t) : chkT t = 0 := by
 rcases h with ⟨l, rfl, hc, hl, _⟩ | ⟨x, n, rfl, hx, h1, h2, h3⟩
 ·exact chain_good hc hl
 ·exact arr_good hx (by omega) h3
theorem arrange_err (p : List Fd) : (arrangeF p).2 = 0 ∨ arrangeF p = (Ty.unk, 6) := by
 unfold arrangeF
 simp only
 split
 ·exact .inr rfl
 ·split <;> exact .inl rfl

/-! ### laying out again -/
theorem rowParts_len (t : Ty) (n : Int) : ∀ k, (rowParts t n k).length = k
 | 0 => rfl
 | k + 1 => by rw [rowParts, List.length_append, rowParts_len t n k]; rfl
end Go.Deco

namespace Go.Deco
open Go Go.RowKit

def strOf (l : List Nat) : ByteArray := ⟨(l.map fun x => UInt8.ofNat x).toArray⟩
theorem run_str {P : Program} {w : World} {S : Nat → Prop} {v : Value} {l : List Nat} (src dst e : TypeId) (hs : P.underlying src = some (.slice e)) (he : P.underlying e = some (.int .u8)) (hd : P.underlying dst = some .string)
  (h : Sl u8R w S v l) : (convert src dst v).run P w = .ok (.string (strOf l)) w := by
 obtain ⟨A, c, rfl, h1, h2⟩ := h.form
 rw [run_convert_bytes_string w src dst e A l.length c hs he hd]
 rcases A with _ | ad
 ·have hl : l = [] := by
   cases l with
   | nil => rfl
   | cons y ys =>
    obtain ⟨b, off, h⟩ := h.at0 (by simp)
    cases h
  subst hl
  simp [Conv.bytesToString, strOf]
  rfl
 ·obtain ⟨xs, hc, hcell⟩ := h.chunksA
  obtain ⟨rfl, hb⟩ := chunks_num.1 hc
  have hl := run_loadCells_list (P := P) w ad (l.map fun x : Nat => Value.int .u8 x) hcell
  rw [List.length_map] at hl
  have e1 : (l.map fun x : Nat => Value.int .u8 x) = (l.map fun x : Nat => (x : Int)).map (Value.int .u8) := by simp
  rw [e1] at hl
  rw [run_bytesToString w ad l.length c _ hl, foldl_push_bytes]
  simp [strOf, ByteArray.empty, ByteArray.emptyWithCapacity, Function.comp_def]
  rfl
end Go.Deco

namespace Go.Deco
open Go Go.RowKit
set_option linter.unusedSimpArgs false
set_option linter.unusedVariables false

/-- An access in memory: four cells. -/
def accR : Rep Acc where
 size := 4
 pos := by omega
 rel _ _ cs a := cs = [.int .i64 a.base, .int .i64 a.off, .int .i64 a.width, .bool a.sgn] ∧ i64b a.base ∧ i64b a.off ∧ i64b a.width
 keep _ h := h
 mono _ h := h
 len h := by rw [h.1]; rfl
 one h u hu := by
  rw [h.1] at hu
  simp at hu
  rcases hu with rfl | rfl | rfl | rfl <;> rfl
theorem Sl.acc_at {w : World} {S : Nat → Prop} {A : Option Addr} {n c k : Nat} {l : List Acc} {a : Acc} (h : Sl accR w S (.slice A n c) l) (hk : l[k]? = some a) :
  ∃ b off, A = some ⟨b, off, none⟩ ∧ w.cell? ⟨b, off + k * 4, none⟩ = some (.int .i64 a.base) ∧ w.cell? ⟨b, off + k * 4 + 1, none⟩ = some (.int .i64 a.off) ∧ w.cell? ⟨b, off + k * 4 + 2, none⟩ = some (.int .i64 a.width) ∧
   w.cell? ⟨b, off + k * 4 + 3, none⟩ = some (.bool a.sgn) ∧ i64b a.base ∧ i64b a.off ∧ i64b a.width := by
 obtain ⟨b, off, cs, hA, ⟨hcs, h1, h2, h3⟩, hc⟩ := h.get hk
 subst hcs
 exact ⟨b, off, hA, by simpa [accR] using hc 0 _ rfl, by simpa [accR, Nat.add_assoc] using hc 1 _ rfl, by simpa [accR, Nat.add_assoc] using hc 2 _ rfl, by simpa [accR, Nat.add_assoc] using hc 3 _ rfl, h1, h2, h3⟩
/-- The value of an access, of a field whose type is an integer. -/
def accV (a : Acc) : Value := .agg #[.int .i64 a.base, .int .i64 a.off, .int .i64 a.width, .bool a.sgn]
def kindA (a : Acc) : Int := if a.sgn then 1 else 2
def partV (a : Acc) : Value := .agg #[.int .i64 a.off, .int .i64 (kindA a), .int .i64 a.width, .int .i64 0, .slice none 0 0, .slice none 0 0]
theorem partA_eq (a : Acc) : partA a = (a.off, .mk (kindA a) a.width 0 [] []) := by
 unfold partA kindA Ty.int Ty.uint
 cases a.sgn <;> rfl
theorem tyV_leaf (d : Nat) (w : World) (S : Nat → Prop) (k n : Int) (hk : i64b k) (hn : i64b n) : TyV d w S (.agg #[.int .i64 k, .int .i64 n, .int .i64 0, .slice none 0 0, .slice none 0 0]) (.mk k n 0 [] []) :=
 ⟨none, 0, 0, none, 0, 0, rfl, Sl.nil, Sl.nil, hk, hn, by show i64b 0; unfold i64b; omega⟩
theorem part_fdV (d : Nat) (w : World) (S : Nat → Prop) (a : Acc) (h1 : i64b a.off) (h2 : i64b a.width) : FdV d w S (partV a) (partA a) := by
 have hk : i64b (kindA a) := by unfold i64b kindA; cases a.sgn <;> simp
 rw [partA_eq]
 exact ⟨none, 0, 0, none, 0, 0, rfl, h1, tyV_leaf d w S (kindA a) a.width hk h2⟩
theorem valid_iff {a : Acc} : validA a = true ↔ (a.width = 1 ∨ a.width = 2 ∨ a.width = 4) ∧ 0 ≤ a.off ∧ a.off ≤ 65532 := by
 simp [validA, and_assoc]
/-- 5 cells of a block written. -/
theorem set5_cells {w : World} {b : Nat} {o0 o1 o2 o3 o4 : Value} (h0 : w.cell? ⟨b, 0, none⟩ = some o0) (h1 : w.cell? ⟨b, 1, none⟩ = some o1) (h2 : w.cell? ⟨b, 2, none⟩ = some o2) (h3 : w.cell? ⟨b, 3, none⟩ = some o3) (h4 : w.cell? ⟨b, 4, none⟩ = some o4) (v0 v1 v2 v3 v4 : Value) :
  (((((w.setCell ⟨b, 0, none⟩ v0).setCell ⟨b, 1, none⟩ v1).setCell ⟨b, 2, none⟩ v2).setCell ⟨b, 3, none⟩ v3).setCell ⟨b, 4, none⟩ v4).cell? ⟨b, 0, none⟩ = some v0 ∧ (((((w.setCell ⟨b, 0, none⟩ v0).setCell ⟨b, 1, none⟩ v1).setCell ⟨b, 2, none⟩ v2).setCell ⟨b, 3, none⟩ v3).setCell ⟨b, 4, none⟩ v4).cell? ⟨b, 1, none⟩ = some v1 ∧ (((((w.setCell ⟨b, 0, none⟩ v0).setCell ⟨b, 1, none⟩ v1).setCell ⟨b, 2, none⟩ v2).setCell ⟨b, 3, none⟩ v3).setCell ⟨b, 4, none⟩ v4).cell? ⟨b, 2, none⟩ = some v2 ∧ (((((w.setCell ⟨b, 0, none⟩ v0).setCell ⟨b, 1, none⟩ v1).setCell ⟨b, 2, none⟩ v2).setCell ⟨b, 3, none⟩ v3).setCell ⟨b, 4, none⟩ v4).cell? ⟨b, 3, none⟩ = some v3 ∧ (((((w.setCell ⟨b, 0, none⟩ v0).setCell ⟨b, 1, none⟩ v1).setCell ⟨b, 2, none⟩ v2).setCell ⟨b, 3, none⟩ v3).setCell ⟨b, 4, none⟩ v4).cell? ⟨b, 4, none⟩ = some v4 := by
 refine ⟨?_, ?_, ?_, ?_, ?_⟩ <;> simp [World.cell?_setCell_same, World.cell?_setCell_other, h0, h1, h2, h3, h4]
/-- 6 cells of a block written. -/
theorem set6_cells {w : World} {b : Nat} {o0 o1 o2 o3 o4 o5 : Value} (h0 : w.cell? ⟨b, 0, none⟩ = some o0) (h1 : w.cell? ⟨b, 1, none⟩ = some o1) (h2 : w.cell? ⟨b, 2, none⟩ = some o2) (h3 : w.cell? ⟨b, 3, none⟩ = some o3) (h4 : w.cell? ⟨b, 4, none⟩ = some o4) (h5 : w.cell? ⟨b, 5, none⟩ = some o5) (v0 v1 v2 v3 v4 v5 : Value) :
  ((((((w.setCell ⟨b, 0, none⟩ v0).setCell ⟨b, 1, none⟩ v1).setCell ⟨b, 2, none⟩ v2).setCell ⟨b, 3, none⟩ v3).setCell ⟨b, 4, none⟩ v4).setCell ⟨b, 5, none⟩ v5).cell? ⟨b, 0, none⟩ = some v0 ∧ ((((((w.setCell ⟨b, 0, none⟩ v0).setCell ⟨b, 1, none⟩ v1).setCell ⟨b, 2, none⟩ v2).setCell ⟨b, 3, none⟩ v3).setCell ⟨b, 4, none⟩ v4).setCell ⟨b, 5, none⟩ v5).cell? ⟨b, 1, none⟩ = some v1 ∧ ((((((w.setCell ⟨b, 0, none⟩ v0).setCell ⟨b, 1, none⟩ v1).setCell ⟨b, 2, none⟩ v2).setCell ⟨b, 3, none⟩ v3).setCell ⟨b, 4, none⟩ v4).setCell ⟨b, 5, none⟩ v5).cell? ⟨b, 2, none⟩ = some v2 ∧ ((((((w.setCell ⟨b, 0, none⟩ v0).setCell ⟨b, 1, none⟩ v1).setCell ⟨b, 2, none⟩ v2).setCell ⟨b, 3, none⟩ v3).setCell ⟨b, 4, none⟩ v4).setCell ⟨b, 5, none⟩ v5).cell? ⟨b, 3, none⟩ = some v3 ∧ ((((((w.setCell ⟨b, 0, none⟩ v0).setCell ⟨b, 1, none⟩ v1).setCell ⟨b, 2, none⟩ v2).setCell ⟨b, 3, none⟩ v3).setCell ⟨b, 4, none⟩ v4).setCell ⟨b, 5, none⟩ v5).cell? ⟨b, 4, none⟩ = some v4 ∧ ((((((w.setCell ⟨b, 0, none⟩ v0).setCell ⟨b, 1, none⟩ v1).setCell ⟨b, 2, none⟩ v2).setCell ⟨b, 3, none⟩ v3).setCell ⟨b, 4, none⟩ v4).setCell ⟨b, 5, none⟩ v5).cell? ⟨b, 5, none⟩ = some v5 := by
 refine ⟨?_, ?_, ?_, ?_, ?_, ?_⟩ <;> simp [World.cell?_setCell_same, World.cell?_setCell_other, h0, h1, h2, h3, h4, h5]
theorem set5_ext {a w : World} {b : Nat} (h : Ext a w) (hb : a.heap.size ≤ b) (v0 v1 v2 v3 v4 : Value) : Ext a (((((w.setCell ⟨b, 0, none⟩ v0).setCell ⟨b, 1, none⟩ v1).setCell ⟨b, 2, none⟩ v2).setCell ⟨b, 3, none⟩ v3).setCell ⟨b, 4, none⟩ v4) := (((((h.setCell (p := ⟨b, 0, none⟩) hb v0).setCell (p := ⟨b, 1, none⟩) hb v1).setCell (p := ⟨b, 2, none⟩) hb v2).setCell (p := ⟨b, 3, none⟩) hb v3).setCell (p := ⟨b, 4, none⟩) hb v4)
theorem set6_ext {a w : World} {b : Nat} (h : Ext a w) (hb : a.heap.size ≤ b) (v0 v1 v2 v3 v4 v5 : Value) : Ext a ((((((w.setCell ⟨b, 0, none⟩ v0).setCell ⟨b, 1, none⟩ v1).setCell ⟨b, 2, none⟩ v2).setCell ⟨b, 3, none⟩ v3).setCell ⟨b, 4, none⟩ v4).setCell ⟨b, 5, none⟩ v5) := ((((((h.setCell (p := ⟨b, 0, none⟩) hb v0).setCell (p := ⟨b, 1, none⟩) hb v1).setCell (p := ⟨b, 2, none⟩) hb v2).setCell (p := ⟨b, 3, none⟩) hb v3).setCell (p := ⟨b, 4, none⟩) hb v4).setCell (p := ⟨b, 5, none⟩) hb v5)
theorem set5_heap (w : World) (b : Nat) (v0 v1 v2 v3 v4 : Value) {k : Nat} (hk : k ≠ b) : (((((w.setCell ⟨b, 0, none⟩ v0).setCell ⟨b, 1, none⟩ v1).setCell ⟨b, 2, none⟩ v2).setCell ⟨b, 3, none⟩ v3).setCell ⟨b, 4, none⟩ v4).heap[k]? = w.heap[k]? := by
 rw [Below.heap_setCell _ _ _ _ (by exact hk)]
 rw [Below.heap_setCell _ _ _ _ (by exact hk)]
 rw [Below.heap_setCell _ _ _ _ (by exact hk)]
 rw [Below.heap_setCell _ _ _ _ (by exact hk)]
 rw [Below.heap_setCell _ _ _ _ (by exact hk)]
theorem set5_far {w : World} {b : Nat} (v0 v1 v2 v3 v4 : Value) {p : Addr} (hp : p.block ≠ b) {u : Value} (h : w.cell? p = some u) : (((((w.setCell ⟨b, 0, none⟩ v0).setCell ⟨b, 1, none⟩ v1).setCell ⟨b, 2, none⟩ v2).setCell ⟨b, 3, none⟩ v3).setCell ⟨b, 4, none⟩ v4).cell? p = some u := (World.cell?_of_block (set5_heap w b v0 v1 v2 v3 v4 hp)).trans h
theorem set6_heap (w : World) (b : Nat) (v0 v1 v2 v3 v4 v5 : Value) {k : Nat} (hk : k ≠ b) : ((((((w.setCell ⟨b, 0, none⟩ v0).setCell ⟨b, 1, none⟩ v1).setCell ⟨b, 2, none⟩ v2).setCell ⟨b, 3, none⟩ v3).setCell ⟨b, 4, none⟩ v4).setCell ⟨b, 5, none⟩ v5).heap[k]? = w.heap[k]? := by
 rw [Below.heap_setCell _ _ _ _ (by exact hk)]
 rw [Below.heap_setCell _ _ _ _ (by exact hk)]
 rw [Below.heap_setCell _ _ _ _ (by exact hk)]
 rw [Below.heap_setCell _ _ _ _ (by exact hk)]
 rw [Below.heap_setCell _ _ _ _ (by exact hk)]
 rw [Below.heap_setCell _ _ _ _ (by exact hk)]
theorem set6_far {w : World} {b : Nat} (v0 v1 v2 v3 v4 v5 : Value) {p : Addr} (hp : p.block ≠ b) {u : Value} (h : w.cell? p = some u) : ((((((w.setCell ⟨b, 0, none⟩ v0).setCell ⟨b, 1, none⟩ v1).setCell ⟨b, 2, none⟩ v2).setCell ⟨b, 3, none⟩ v3).setCell ⟨b, 4, none⟩ v4).setCell ⟨b, 5, none⟩ v5).cell? p = some u := (World.cell?_of_block (set6_heap w b v0 v1 v2 v3 v4 v5 hp)).trans h
end Go.Deco

namespace Go.Deco
open Go Go.RowKit
set_option linter.unusedVariables false
set_option linter.unusedSimpArgs false

/-- The datum's cells say all. -/
structure Pure {E : Type} (R : Rep E) where
 cells : E → List Value
 ok : E → Prop
 iff : ∀ (w : World) (S : Nat → Prop) (cs : List Value) (e : E), R.rel w S cs e ↔ cs = cells e ∧ ok e
 len : ∀ e, (cells e).length = R.size

section
variable {E : Type} {R : Rep E} (p : Pure R) {w w' : World} {S T : Nat → Prop} {l : List E}
theorem Pure.chunks : ∀ {l : List E} {xs : List Value}, Chunks R w S xs l ↔ xs = l.flatMap p.cells ∧ ∀ e ∈ l, p.ok e
 | [], xs => by simp [Chunks]
 | y :: l, xs => by
  constructor
  ·rintro ⟨cs, rest, rfl, hr, h⟩
   obtain ⟨rfl, hy⟩ := (p.iff _ _ _ _).1 hr
   obtain ⟨rfl, h2⟩ := (Pure.chunks).1 h
   refine ⟨by rw [List.flatMap_cons], fun x hx => ?_⟩
   rcases List.mem_cons.1 hx with rfl | hx
   ·exact hy
   ·exact h2 x hx
  ·rintro ⟨rfl, h⟩
   exact ⟨_, _, by rw [List.flatMap_cons], (p.iff _ _ _ _).2 ⟨rfl, h y (by simp)⟩, Pure.chunks.2 ⟨rfl, fun x hx => h x (by simp [hx])⟩⟩
theorem Pure.at : ∀ {l : List E} {k i : Nat} {x : E} {u : Value}, l[k]? = some x → (p.cells x)[i]? = some u → (l.flatMap p.cells)[k * R.size + i]? = some u
 | [], _, _, _, _, h, _ => by simp at h
 | y :: l, 0, i, x, u, h, hu => by
  simp at h
  subst h
  rw [List.flatMap_cons, Nat.zero_mul, Nat.zero_add, List.getElem?_append_left (List.getElem?_eq_some_iff.1 hu).1]
  exact hu
 | y :: l, k + 1, i, x, u, h, hu => by
  have := Pure.at (l := l) (k := k) (by simpa using h) hu
  rw [List.flatMap_cons, List.getElem?_append_right (by rw [p.len, Nat.succ_mul]; omega), p.len, show (k + 1) * R.size + i - R.size = k * R.size + i by rw [Nat.succ_mul]; omega]
  exact this
theorem Pure.put : ∀ {l : List E} {k i : Nat} {x y : E} {u : Value}, l[k]? = some x → i < R.size → (p.cells x).set i u = p.cells y → (l.flatMap p.cells).set (k * R.size + i) u = (l.set k y).flatMap p.cells
 | [], _, _, _, _, _, h, _, _ => by simp at h
 | z :: l, 0, i, x, y, u, h, hi, hu => by
  simp at h
  subst h
  rw [List.flatMap_cons, Nat.zero_mul, Nat.zero_add, List.set_append_left _ _ (by rw [p.len]; exact hi), hu, List.set_cons_zero, List.flatMap_cons]
 | z :: l, k + 1, i, x, y, u, h, hi, hu => by
  have := Pure.put (l := l) (k := k) (by simpa using h) hi hu
  rw [List.flatMap_cons, List.set_append_right _ _ (by rw [p.len, Nat.succ_mul]; omega), p.len, show (k + 1) * R.size + i - R.size = k * R.size + i by rw [Nat.succ_mul]; omega, this, List.set_cons_succ, List.flatMap_cons]

variable {base : Nat} {t : TypeId} {g n c k i : Nat} {x y : E} {u v : Value}
theorem Pure.own_ok (p : Pure R) (h : OwnS R w base t T v l) : ∀ e ∈ l, p.ok e := by
 obtain ⟨xs, ho, hc⟩ := h
 exact (p.chunks.1 hc).2
theorem Pure.cell (p : Pure R) (h : OwnS R w base t T (.slice (some ⟨g, 0, none⟩) n c) l) (hk : l[k]? = some x) (hu : (p.cells x)[i]? = some u) :
  w.cell? ⟨g, k * R.size + i, none⟩ = some u ∧ w.frozen? ⟨g, k * R.size + i, none⟩ = false := by
 have hn := h.len
 obtain ⟨xs, ho, hc⟩ := h
 obtain ⟨rfl, _⟩ := p.chunks.1 hc
 rw [← hn] at ho
 have hlt := (List.getElem?_eq_some_iff.1 hk).1
 have hi : i < R.size := by rw [← p.len x]; exact (List.getElem?_eq_some_iff.1 hu).1
 refine ⟨?_, ho.frozenAt _⟩
 rw [ho.cellAt (k * R.size + i) ?_, p.at hk hu]
 rw [hn]
 calc k * R.size + i < k * R.size + R.size := by omega
  _ = (k + 1) * R.size := by rw [Nat.succ_mul]
  _ ≤ l.length * R.size := Nat.mul_le_mul_right _ hlt
theorem Pure.set (p : Pure R) (h : OwnS R w base t T (.slice (some ⟨g, 0, none⟩) n c) l) (hk : l[k]? = some x) (hi : i < R.size) (hu : (p.cells x).set i u = p.cells y) (hy : p.ok y) :
  OwnS R (w.setCell ⟨g, k * R.size + i, none⟩ u) base t T (.slice (some ⟨g, 0, none⟩) n c) (l.set k y) := by
 have hn := h.len
 obtain ⟨xs, ho, hc⟩ := h
 obtain ⟨rfl, hb⟩ := p.chunks.1 hc
 refine ⟨(l.set k y).flatMap p.cells, ?_, p.chunks.2 ⟨rfl, fun e he => ?_⟩⟩
 ·rw [← hn] at ho
  have := (ho.stored (k * R.size + i) u).1
  rw [List.length_set, ← p.put hk hi hu, ← hn]
  exact this
 ·rcases List.mem_or_eq_of_mem_set he with he | rfl
  ·exact hb e he
  ·exact hy
end
end Go.Deco

namespace Go.Deco
open Go Go.RowKit
set_option linter.unusedSimpArgs false
set_option linter.unusedVariables false

/-- The cells of a field, its lists left where they are. -/
structure Raw where
 off : Int
 kind : Int
 size : Int
 count : Int
 A : Option Addr
 n : Nat
 c : Nat
 B : Option Addr
 m : Nat
 e : Nat
def Raw.cells (x : Raw) : List Value := [.int .i64 x.off, .int .i64 x.kind, .int .i64 x.size, .int .i64 x.count, .slice x.A x.n x.c, .slice x.B x.m x.e]
def rawR : Rep Raw where
 size := 6
 pos := by omega
 rel _ _ cs x := cs = x.cells
 keep _ h := h
 mono _ h := h
 len h := by rw [h]; rfl
 one h u hu := by
  rw [h] at hu
  simp [Raw.cells] at hu
  rcases hu with rfl | rfl | rfl | rfl | rfl | rfl <;> rfl
def rawP : Pure rawR where
 cells := Raw.cells
 ok _ := True
 iff _ _ _ _ := by simp [rawR]
 len _ := rfl
def ltRw (x y : Raw) : Bool := decide (x.off < y.off)
theorem weakRw : Weak ltRw := ⟨fun x y h => by simp [ltRw] at h ⊢; omega, fun x y z h k => by simp [ltRw] at h k ⊢; omega⟩
/-- One field of an owned row written. -/
theorem raw_put {w : World} {base g n c i : Nat} {t : TypeId} {T : Nat → Prop} {l : List Raw} {x y : Raw} (h : OwnS rawR w base t T (.slice (some ⟨g, 0, none⟩) n c) l) (hi : l[i]? = some y) (hx : rawP.ok x) :
  OwnS rawR ((((((w.setCell ⟨g, i * 6, none⟩ (.int .i64 x.off)).setCell ⟨g, i * 6 + 1, none⟩ (.int .i64 x.kind)).setCell ⟨g, i * 6 + 2, none⟩ (.int .i64 x.size)).setCell ⟨g, i * 6 + 3, none⟩ (.int .i64 x.count)).setCell ⟨g, i * 6 + 4, none⟩ (.slice x.A x.n x.c)).setCell ⟨g, i * 6 + 5, none⟩ (.slice x.B x.m x.e)) base t T (.slice (some ⟨g, 0, none⟩) n c) (l.set i x) := by
 have hil := (List.getElem?_eq_some_iff.1 hi).1
 have h1 := rawP.set (x := y) (y := ⟨x.off, y.kind, y.size, y.count, y.A, y.n, y.c, y.B, y.m, y.e⟩) h hi (i := 0) (u := .int .i64 x.off) (by simp [rawR]) rfl trivial
 have h2 := rawP.set (x := ⟨x.off, y.kind, y.size, y.count, y.A, y.n, y.c, y.B, y.m, y.e⟩) (y := ⟨x.off, x.kind, y.size, y.count, y.A, y.n, y.c, y.B, y.m, y.e⟩) h1 (by rw [List.getElem?_set_self hil]) (i := 1) (u := .int .i64 x.kind) (by simp [rawR]) rfl trivial
 rw [List.set_set] at h2
 have h3 := rawP.set (x := ⟨x.off, x.kind, y.size, y.count, y.A, y.n, y.c, y.B, y.m, y.e⟩) (y := ⟨x.off, x.kind, x.size, y.count, y.A, y.n, y.c, y.B, y.m, y.e⟩) h2 (by rw [List.getElem?_set_self (by simpa using hil)]) (i := 2) (u := .int .i64 x.size) (by simp [rawR]) rfl trivial
 rw [List.set_set] at h3
 have h4 := rawP.set (x := ⟨x.off, x.kind, x.size, y.count, y.A, y.n, y.c, y.B, y.m, y.e⟩) (y := ⟨x.off, x.kind, x.size, x.count, y.A, y.n, y.c, y.B, y.m, y.e⟩) h3 (by rw [List.getElem?_set_self (by simpa using hil)]) (i := 3) (u := .int .i64 x.count) (by simp [rawR]) rfl trivial
 rw [List.set_set] at h4
 have h5 := rawP.set (x := ⟨x.off, x.kind, x.size, x.count, y.A, y.n, y.c, y.B, y.m, y.e⟩) (y := ⟨x.off, x.kind, x.size, x.count, x.A, x.n, x.c, y.B, y.m, y.e⟩) h4 (by rw [List.getElem?_set_self (by simpa using hil)]) (i := 4) (u := .slice x.A x.n x.c) (by simp [rawR]) rfl trivial
 rw [List.set_set] at h5
 have h6 := rawP.set (x := ⟨x.off, x.kind, x.size, x.count, x.A, x.n, x.c, y.B, y.m, y.e⟩) (y := x) h5 (by rw [List.getElem?_set_self (by simpa using hil)]) (i := 5) (u := .slice x.B x.m x.e) (by simp [rawR]) rfl trivial
 rw [List.set_set] at h6
 exact h6
/-- A field of an owned row: its cells, none of them frozen. -/
theorem raw_cells {w : World} {base g n c k : Nat} {t : TypeId} {T : Nat → Prop} {l : List Raw} {x : Raw} (h : OwnS rawR w base t T (.slice (some ⟨g, 0, none⟩) n c) l) (hk : l[k]? = some x) :
  (w.cell? ⟨g, k * 6, none⟩ = some (.int .i64 x.off) ∧ w.cell? ⟨g, k * 6 + 1, none⟩ = some (.int .i64 x.kind) ∧ w.cell? ⟨g, k * 6 + 2, none⟩ = some (.int .i64 x.size) ∧ w.cell? ⟨g, k * 6 + 3, none⟩ = some (.int .i64 x.count) ∧ w.cell? ⟨g, k * 6 + 4, none⟩ = some (.slice x.A x.n x.c) ∧ w.cell? ⟨g, k * 6 + 5, none⟩ = some (.slice x.B x.m x.e)) ∧ w.frozen? ⟨g, k * 6, none⟩ = false ∧ w.frozen? ⟨g, k * 6 + 1, none⟩ = false ∧ w.frozen? ⟨g, k * 6 + 2, none⟩ = false ∧ w.frozen? ⟨g, k * 6 + 3, none⟩ = false ∧ w.frozen? ⟨g, k * 6 + 4, none⟩ = false ∧ w.frozen? ⟨g, k * 6 + 5, none⟩ = false := by
 have h0 := rawP.cell h hk (i := 0) (u := .int .i64 x.off) rfl
 have h1 := rawP.cell h hk (i := 1) (u := .int .i64 x.kind) rfl
 have h2 := rawP.cell h hk (i := 2) (u := .int .i64 x.size) rfl
 have h3 := rawP.cell h hk (i := 3) (u := .int .i64 x.count) rfl
 have h4 := rawP.cell h hk (i := 4) (u := .slice x.A x.n x.c) rfl
 have h5 := rawP.cell h hk (i := 5) (u := .slice x.B x.m x.e) rfl
 exact ⟨⟨h0.1, h1.1, h2.1, h3.1, h4.1, h5.1⟩, h0.2, h1.2, h2.2, h3.2, h4.2, h5.2⟩

section
variable {α : Type} {lt : α → α → Bool}
theorem srt_get (l : List α) : Srt lt l ↔ ∀ i j : Nat, i < j → ∀ x y, l[i]? = some x → l[j]? = some y → lt y x = false := by
 unfold Srt
 rw [List.pairwise_iff_getElem]
 constructor
 ·intro h i j hij x y hx hy
  obtain ⟨h1, rfl⟩ := List.getElem?_eq_some_iff.1 hx
  obtain ⟨h2, rfl⟩ := List.getElem?_eq_some_iff.1 hy
  exact h i j h1 h2 hij
 ·intro h i j hi hj hij
  exact h i j hij _ _ (List.getElem?_eq_getElem hi) (List.getElem?_eq_getElem hj)
/-- The parts of two sorted lists that a search by halves has found: what is merged ahead, what is merged behind. -/
theorem split_ok (W : Weak lt) {X Y : List α} (hX : Srt lt X) (hY : Srt lt Y) (i j : Nat) (hi : i ≤ X.length) (hj : j ≤ Y.length)
  (hA : ∀ x y, j ≠ 0 → X[i]? = some x → Y[j - 1]? = some y → lt y x = true) (hB : ∀ x y, i ≠ 0 → X[i - 1]? = some x → Y[j]? = some y → lt y x = false) :
  mrg lt X Y = mrg lt (X.take i) (Y.take j) ++ mrg lt (X.drop i) (Y.drop j) := by
 have hX' := (srt_get X).1 hX
 have hY' := (srt_get Y).1 hY
 rw [← mrg_split _ (Nat.le_refl _), List.take_append_drop, List.take_append_drop]
 ·intro r hr l hl
  obtain ⟨p, hp, rfl⟩ := List.mem_take_iff_getElem.1 hr
  obtain ⟨q, hq, rfl⟩ := List.getElem_of_mem hl
  rw [List.length_drop] at hq
  have hj0 : j ≠ 0 := by omega
  have e1 : X[i]? = some (X[i]'(by omega)) := List.getElem?_eq_getElem _
  have e2 : Y[j - 1]? = some (Y[j - 1]'(by omega)) := List.getElem?_eq_getElem _
  have h1 := hA _ _ hj0 e1 e2
  rw [List.getElem_drop]
  have h2 : lt (Y[j - 1]'(by omega)) (Y[p]'(by omega)) = false := by
   by_cases e : p = j - 1
   ·subst e; exact W.irr _
   ·exact hY' p (j - 1) (by omega) _ _ (List.getElem?_eq_getElem _) e2
  have h3 : lt (X[i + q]'(by omega)) (X[i]'(by omega)) = false := by
   by_cases e : q = 0
   ·subst e; exact W.irr _
   ·exact hX' i (i + q) (by omega) _ _ e1 (List.getElem?_eq_getElem _)
  exact W.lt_le (W.le_lt h2 h1) h3
 ·intro l hl r hr
  obtain ⟨p, hp, rfl⟩ := List.mem_take_iff_getElem.1 hl
  obtain ⟨q, hq, rfl⟩ := List.getElem_of_mem hr
  rw [List.length_drop] at hq
  have hi0 : i ≠ 0 := by omega
  have e1 : X[i - 1]? = some (X[i - 1]'(by omega)) := List.getElem?_eq_getElem _
  have e2 : Y[j]? = some (Y[j]'(by omega)) := List.getElem?_eq_getElem _
  have h1 := hB _ _ hi0 e1 e2
  rw [List.getElem_drop]
  have h2 : lt (X[i - 1]'(by omega)) (X[p]'(by omega)) = false := by
   by_cases e : p = i - 1
   ·subst e; exact W.irr _
   ·exact hX' p (i - 1) (by omega) _ _ (List.getElem?_eq_getElem _) e1
  have h3 : lt (Y[j + q]'(by omega)) (Y[j]'(by omega)) = false := by
   by_cases e : q = 0
   ·subst e; exact W.irr _
   ·exact hY' j (j + q) (by omega) _ _ e2 (List.getElem?_eq_getElem _)
  exact W.trans _ _ _ (W.trans _ _ _ h2 h1) h3
end
section
variable {α : Type} {lt : α → α → Bool}

/-- x put into O at p. -/
def insP (O : List α) (x : α) (p : Nat) : List α := O.take p ++ (x :: O.drop p)
theorem insP_len (O : List α) (x : α) (p : Nat) : (insP O x p).length = O.length + 1 := by
 unfold insP
 simp
 omega
theorem insP_zero (O : List α) (x : α) : insP O x 0 = x :: O := rfl
theorem insP_all (O : List α) (x : α) : insP O x O.length = O ++ [x] := by simp [insP]
theorem insP_lo {O : List α} {x y : α} {p : Nat} (h : O[p]? = some y) : insP O x p = O.take p ++ (x :: y :: O.drop (p + 1)) := by
 unfold insP
 rw [drop_cons' h]
theorem insP_hi {O : List α} {x y : α} {p : Nat} (h : O[p]? = some y) : insP O x (p + 1) = O.take p ++ (y :: x :: O.drop (p + 1)) := by
 unfold insP
 rw [take_snoc' h, List.append_assoc]
 rfl
theorem two_at (U R : List α) (x y : α) : (U ++ (x :: y :: R))[U.length]? = some x ∧ (U ++ (x :: y :: R))[U.length + 1]? = some y := by
 constructor
 ·rw [List.getElem?_append_right (Nat.le_refl _)]; simp
 ·rw [List.getElem?_append_right (by omega)]; simp
theorem two_set (U R : List α) (x y : α) : ((U ++ (x :: y :: R)).set U.length y).set (U.length + 1) x = U ++ (y :: x :: R) := by
 rw [List.set_append_right _ _ (Nat.le_refl _), List.set_append_right _ _ (by omega)]
 simp
theorem two_set' (U R : List α) (x y : α) : ((U ++ (x :: y :: R)).set (U.length + 1) x).set U.length y = U ++ (y :: x :: R) := by
 rw [List.set_append_right _ _ (by omega), List.set_append_right _ _ (Nat.le_refl _)]
 simp
/-- The element moves down one place. -/
theorem move_down {P O R : List α} {x y : α} {p : Nat} (h : O[p]? = some y) :
  (P ++ (insP O x (p + 1) ++ R))[P.length + p]? = some y ∧ (P ++ (insP O x (p + 1) ++ R))[P.length + p + 1]? = some x ∧
  ((P ++ (insP O x (p + 1) ++ R)).set (P.length + p + 1) y).set (P.length + p) x = P ++ (insP O x p ++ R) := by
 have hl : p < O.length := (List.getElem?_eq_some_iff.1 h).1
 have e : (P ++ O.take p).length = P.length + p := by rw [List.length_append, List.length_take]; omega
 have e1 : P ++ (insP O x (p + 1) ++ R) = (P ++ O.take p) ++ (y :: x :: (O.drop (p + 1) ++ R)) := by rw [insP_hi h]; simp
 have e2 : P ++ (insP O x p ++ R) = (P ++ O.take p) ++ (x :: y :: (O.drop (p + 1) ++ R)) := by rw [insP_lo h]; simp
 rw [e1, e2, ← e]
 exact ⟨(two_at _ _ _ _).1, (two_at _ _ _ _).2, two_set' _ _ _ _⟩
/-- The element moves up one place. -/
theorem move_up {P O R : List α} {x y : α} {p : Nat} (h : O[p]? = some y) :
  (P ++ (insP O x p ++ R))[P.length + p]? = some x ∧ (P ++ (insP O x p ++ R))[P.length + p + 1]? = some y ∧
  ((P ++ (insP O x p ++ R)).set (P.length + p) y).set (P.length + p + 1) x = P ++ (insP O x (p + 1) ++ R) := by
 have hl : p < O.length := (List.getElem?_eq_some_iff.1 h).1
 have e : (P ++ O.take p).length = P.length + p := by rw [List.length_append, List.length_take]; omega
 have e1 : P ++ (insP O x (p + 1) ++ R) = (P ++ O.take p) ++ (y :: x :: (O.drop (p + 1) ++ R)) := by rw [insP_hi h]; simp
 have e2 : P ++ (insP O x p ++ R) = (P ++ O.take p) ++ (x :: y :: (O.drop (p + 1) ++ R)) := by rw [insP_lo h]; simp
 rw [e1, e2, ← e]
 exact ⟨(two_at _ _ _ _).1, (two_at _ _ _ _).2, two_set _ _ _ _⟩
/-- Where the element is: what stands there, what stands below. -/
theorem insR_insP {O : List α} {x : α} {p : Nat} (W : Weak lt) (hO : Srt lt O) (hp : p ≤ O.length) (hlo : ∀ y, p ≠ 0 → O[p - 1]? = some y → lt x y = false) (hhi : ∀ j, p ≤ j → ∀ y, O[j]? = some y → lt x y = true) : insR lt x O = insP O x p := by
 have hO' := (srt_get O).1 hO
 refine insR_at (fun j hj y hy => ?_) hp (fun y hy => hhi p (Nat.le_refl _) y hy)
 have e : O[p - 1]? = some (O[p - 1]'(by omega)) := List.getElem?_eq_getElem _
 have h1 := hlo _ (by omega) e
 by_cases e1 : j = p - 1
 ·subst e1
  rw [e] at hy
  cases hy
  exact h1
 ·exact W.trans _ _ _ (hO' j (p - 1) (by omega) _ _ hy e) h1
theorem mrg_one_l (W : Weak lt) {Y : List α} {x : α} {s : Nat} (hY : Srt lt Y) (hs : s ≤ Y.length) (h1 : ∀ y, s ≠ 0 → Y[s - 1]? = some y → lt y x = true) (h2 : ∀ y, Y[s]? = some y → lt y x = false) : mrg lt [x] Y = insP Y x s := by
 rw [split_ok W (List.pairwise_singleton _ _) hY 0 s (by simp) hs (fun a y h0 ha hy => by simp at ha; subst ha; exact h1 y h0 hy) (fun a y h0 => absurd rfl h0)]
 rw [List.take_zero, mrg_nil, List.drop_zero]
 unfold insP
 congr 1
 cases e : Y.drop s with
 | nil => rw [mrg_nil']
 | cons y t =>
  have hy : Y[s]? = some y := by
   have := congrArg (·[0]?) e
   simpa using this
  rw [mrg_cons, if_neg (by rw [h2 y hy]; exact Bool.noConfusion), mrg_nil]
theorem mrg_one_r (W : Weak lt) {X : List α} {y : α} {s : Nat} (hX : Srt lt X) (hs : s ≤ X.length) (h1 : ∀ x, s ≠ 0 → X[s - 1]? = some x → lt y x = false) (h2 : ∀ x, X[s]? = some x → lt y x = true) : mrg lt X [y] = insP X y s := by
 rw [split_ok W hX (List.pairwise_singleton _ _) s 0 hs (by simp) (fun a b h0 => absurd rfl h0) (fun x b h0 hx hb => by simp at hb; subst hb; exact h1 x h0 hx)]
 rw [List.take_zero, mrg_nil', List.drop_zero]
 unfold insP
 congr 1
 cases e : X.drop s with
 | nil => rw [mrg_nil]
 | cons x t =>
  have hx : X[s]? = some x := by
   have := congrArg (·[0]?) e
   simpa using this
  rw [mrg_cons, if_pos (h2 x hx), mrg_nil']
/-- Two parts that lie ahead of the rest exchanged, where the first one is cut. -/
theorem cut2 (l : List α) (k : Nat) : l = l.take k ++ l.drop k := (List.take_append_drop k l).symm
theorem srt_take {l : List α} (h : Srt lt l) (k : Nat) : Srt lt (l.take k) := List.Pairwise.sublist (List.take_sublist k l) h
theorem srt_drop {l : List α} (h : Srt lt l) (k : Nat) : Srt lt (l.drop k) := List.Pairwise.sublist (List.drop_sublist k l) h
/-- Reading a list that is written as parts. -/
theorem part_at (P X R : List α) {k : Nat} (hk : k < X.length) : (P ++ (X ++ R))[P.length + k]? = X[k]? := by
 rw [List.getElem?_append_right (by omega), List.getElem?_append_left (by omega)]
 congr 1
 omega
end
end Go.Deco

namespace Go.Deco
open Go Go.RowKit
set_option linter.unusedSimpArgs false
set_option linter.unusedVariables false

section
variable {α β : Type} {P : α → β → Prop}
/-- Element by element. -/
def All2 (P : α → β → Prop) : List α → List β → Prop
 | [], [] => True
 | x :: l, y :: m => P x y ∧ All2 P l m
 | _, _ => False
theorem All2.len : ∀ {l : List α} {m : List β}, All2 P l m → l.length = m.length
 | [], [], _ => rfl
 | x :: l, y :: m, h => by rw [List.length_cons, List.length_cons, All2.len h.2]
 | [], _ :: _, h => h.elim
 | _ :: _, [], h => h.elim
theorem All2.mono {Q : α → β → Prop} (hPQ : ∀ x y, P x y → Q x y) : ∀ {l : List α} {m : List β}, All2 P l m → All2 Q l m
 | [], [], _ => trivial
 | x :: l, y :: m, h => ⟨hPQ x y h.1, All2.mono hPQ h.2⟩
 | [], _ :: _, h => h.elim
 | _ :: _, [], h => h.elim
theorem All2.snoc {x : α} {y : β} : ∀ {l : List α} {m : List β}, All2 P l m → P x y → All2 P (l ++ [x]) (m ++ [y])
 | [], [], _, h => ⟨h, trivial⟩
 | a :: l, b :: m, h, k => ⟨h.1, All2.snoc h.2 k⟩
 | [], _ :: _, h, _ => h.elim
 | _ :: _, [], h, _ => h.elim
theorem All2.ins {lt : α → α → Bool} {lu : β → β → Bool} (hl : ∀ x y x' y', P x y → P x' y' → lt x x' = lu y y') {x : α} {y : β} (hxy : P x y) : ∀ {l : List α} {m : List β}, All2 P l m → All2 P (insR lt x l) (insR lu y m)
 | [], [], _ => ⟨hxy, trivial⟩
 | a :: l, b :: m, h => by
  rw [insR, insR, hl x y a b hxy h.1]
  split
  ·exact ⟨hxy, h⟩
  ·exact ⟨h.1, All2.ins hl hxy h.2⟩
 | [], _ :: _, h => h.elim
 | _ :: _, [], h => h.elim
theorem All2.fold {lt : α → α → Bool} {lu : β → β → Bool} (hl : ∀ x y x' y', P x y → P x' y' → lt x x' = lu y y') : ∀ {l : List α} {m : List β} {O : List α} {U : List β}, All2 P l m → All2 P O U → All2 P (l.foldl (fun O x => insR lt x O) O) (m.foldl (fun O x => insR lu x O) U)
 | [], [], _, _, _, h => h
 | a :: l, b :: m, O, U, h, k => All2.fold hl (l := l) (m := m) h.2 (All2.ins hl h.1 k)
 | [], _ :: _, _, _, h, _ => h.elim
 | _ :: _, [], _, _, h, _ => h.elim
theorem All2.stab {lt : α → α → Bool} {lu : β → β → Bool} (hl : ∀ x y x' y', P x y → P x' y' → lt x x' = lu y y') {l : List α} {m : List β} (h : All2 P l m) : All2 P (Go.Deco.stab lt l) (Go.Deco.stab lu m) :=
 All2.fold hl h trivial
end

/-- The raw cells are those of the field. -/
def RawIs (d : Nat) (w : World) (S : Nat → Prop) (x : Raw) (f : Fd) : Prop := (fdR (tyR d)).rel w S x.cells f
section
variable {d : Nat} {w w' : World} {S T : Nat → Prop} {x : Raw} {f : Fd}
theorem raw_of_fd {cs : List Value} (h : (fdR (tyR d)).rel w S cs f) : ∃ x : Raw, cs = x.cells := by
 cases d with
 | zero => obtain ⟨r, _, hr, _⟩ := h; exact hr.elim
 | succ d =>
  obtain ⟨A, n, c, B, m, e, hv, _⟩ := fd_rel.1 h
  injection hv with hv
  refine ⟨⟨f.1, f.2.kind, f.2.size, f.2.count, A, n, c, B, m, e⟩, ?_⟩
  have := congrArg Array.toList hv
  simpa [Raw.cells] using this
theorem RawIs.off (h : RawIs d w S x f) : x.off = f.1 := by
 obtain ⟨r, hr, _⟩ := h
 unfold Raw.cells at hr
 injection hr with h1
 injection h1
theorem RawIs.lt {x' : Raw} {f' : Fd} (h : RawIs d w S x f) (h' : RawIs d w S x' f') : ltRw x x' = ltF f f' := by
 unfold ltRw ltF
 rw [h.off, h'.off]
theorem chunks_raw : ∀ {l : List Fd} {xs : List Value}, Chunks (fdR (tyR d)) w S xs l → ∃ rl : List Raw, Chunks rawR w T xs rl ∧ All2 (RawIs d w S) rl l
 | [], xs, h => ⟨[], h, trivial⟩
 | f :: l, xs, ⟨cs, rest, hx, hr, hc⟩ => by
  obtain ⟨x, rfl⟩ := raw_of_fd hr
  obtain ⟨rl, h1, h2⟩ := chunks_raw hc
  exact ⟨x :: rl, ⟨x.cells, rest, hx, rfl, h1⟩, hr, h2⟩
theorem raw_chunks : ∀ {rl : List Raw} {l : List Fd} {xs : List Value}, Chunks rawR w T xs rl → All2 (RawIs d w S) rl l → Chunks (fdR (tyR d)) w S xs l
 | [], [], xs, h, _ => h
 | x :: rl, f :: l, xs, ⟨cs, rest, hx, hr, hc⟩, h => ⟨cs, rest, hx, by rw [show cs = x.cells from hr]; exact h.1, raw_chunks hc h.2⟩
 | [], _ :: _, _, _, h => h.elim
 | _ :: _, [], _, _, h => h.elim
theorem own_raw {base : Nat} {t : TypeId} {v : Value} {l : List Fd} (h : OwnS (fdR (tyR d)) w base t S v l) : ∃ rl : List Raw, OwnS rawR w base t T v rl ∧ All2 (RawIs d w (fun b => S b ∧ some b ≠ v.ownBlock)) rl l := by
 obtain ⟨xs, ho, hc⟩ := h
 obtain ⟨rl, h1, h2⟩ := chunks_raw (T := fun b => T b ∧ some b ≠ v.ownBlock) hc
 exact ⟨rl, ⟨xs, by rw [show (rawR.size) = (fdR (tyR d)).size from (fdR_size d).symm, h2.len]; exact ho, h1⟩, h2⟩
theorem raw_own {base : Nat} {t : TypeId} {v : Value} {rl : List Raw} {l : List Fd} (h : OwnS rawR w base t T v rl) (h2 : All2 (RawIs d w (fun b => S b ∧ some b ≠ v.ownBlock)) rl l) : OwnS (fdR (tyR d)) w base t S v l := by
 obtain ⟨xs, ho, hc⟩ := h
 exact ⟨xs, by rw [fdR_size, ← h2.len]; exact ho, raw_chunks hc h2⟩
end
end Go.Deco

namespace Go.Deco
open Go Go.RowKit
set_option linter.unusedSimpArgs false
set_option linter.unusedVariables false

/-- .. a step of a drawn region: one element appended, and where the new slice lies. -/
theorem step_app1l {P : Program} {E : Type} {T : Nat → Prop} {ops : Array Oper} {o : Oper} {a : Act} {K : Act → World → Prop} {Q : Exit → Act → World → Prop} {X : Prop} {W : World} {cs : List Value} {u : TypeId} (hgd : o.guard = none) (s x : Operand) (t : TypeId)
  (ho : o.op = .call { callee := .builtin .append, args := #[s, x], argTypes := #[t, t] })
  (base : Nat) (e : TypeId) (i : TypeInfo) (z : Value) (size bytes : Nat) (ht : P.underlying t = some (.slice e)) (hi : P.info? e = some i) (hz : i.zero = some z)
  (hsize : i.size = size) (hby : i.bytes = bytes) (hzs : z.cells.size = size) (R : Rep E) (hR : R.size = size)
  (v : Value) (l : List E) (hs : a.eval s = v) (hown : OwnS R W base e T v l)
  (y : E) (hx : a.eval x = .slice (some ⟨W.heap.size, 0, none⟩) 1 1) (hy : R.rel W (fun b => T b ∧ some b ≠ v.ownBlock) cs y)
  (h63 : l.length + 1 ≤ 9223372036854775807) (hbytes : (l.length + 1) * bytes ≤ 140737488355328) (hbase : base ≤ W.heap.size)
  (h : ∀ A' c' W', OwnS R W' base e T (.slice A' (l.length + 1) c') (l ++ [y]) → (W.alloc (.cells cs.toArray u)).grownBy W' v.ownBlock →
   ((Value.slice A' (l.length + 1) c').ownBlock = v.ownBlock ∨ ∀ b, (Value.slice A' (l.length + 1) c').ownBlock = some b → W.heap.size + 1 ≤ b) → K (a.put o.dst (.slice A' (l.length + 1) c')) W') :
  if Region.wanted o (yielded ops a.tmps) = true then Oper.wp P o a (W.alloc (.cells cs.toArray u)) K Q else X := by
 have hw : Region.wanted o (yielded ops a.tmps) = true := by simp [Region.wanted, hgd]
 rw [if_pos hw]
 obtain ⟨A', c', W', hrun, h2, h3, h4⟩ := run_append_sl (P := P) (W.alloc (.cells cs.toArray u)) t o.type e i z size bytes ht hi hz hsize hby hzs hR v l (hown.al _) ⟨W.heap.size, 0, none⟩ 1 1 [y] cs rfl
  (Chunks.single (R.ext ((Ext.refl W).alloc _) hy)) (new_cells W cs u) h63 hbytes (by simp; omega)
 unfold Oper.wp execOp
 simp only [ho, resolve, invoke, builtin, Sem.run_bind, Sem.run_pure, Result.andThen_ok, List.map_toArray, List.map_cons, List.map_nil, hs, hx, hrun]
 refine h A' c' W' h2 h3 ?_
 rcases h4 with h4 | h4
 ·exact .inl h4
 ·refine .inr fun b hb => ?_
  have h5 : some b = some (W.alloc (.cells cs.toArray u)).heap.size := hb.symm.trans h4
  injection h5 with h5
  simp at h5
  omega

/-- A slice as three words. -/
structure SlH where
 A : Option Addr
 n : Nat
 c : Nat
def SlH.val (h : SlH) : Value := .slice h.A h.n h.c
def slhR : Rep SlH where
 size := 1
 pos := by omega
 rel _ _ cs h := cs = [h.val]
 keep _ h := h
 mono _ h := h
 len h := by rw [h]; rfl
 one h u hu := by rw [h] at hu; simp at hu; rw [hu]; rfl
def slhP : Pure slhR where
 cells h := [h.val]
 ok _ := True
 iff _ _ _ _ := by simp [slhR]
 len _ := rfl
theorem setRow_grown {q : Nat} : ∀ (cs : List Value) (w : World) (off : Nat), w.grownBy (setRow w q off cs) (some q)
 | [], w, off => World.grownBy.refl w _
 | c :: cs, w, off => by
  have ih := setRow_grown (q := q) cs (w.setCell ⟨q, off, none⟩ c) (off + 1)
  refine ⟨ih.os.trans rfl, ih.tape.trans rfl, ih.output.trans rfl, Nat.le_trans (by simp) ih.size, fun k hk hne => ?_⟩
  rw [setRow, Go.Deco.setRow_heap cs _ q _ k fun e => hne (by rw [e])]
  exact Below.heap_setCell _ _ _ _ fun e => hne (by rw [e])
/-- Where the closed groups lie: not in the row of groups, not in the last group. -/
def offB (ov lv : Value) (b : Nat) : Prop := some b ≠ ov.ownBlock ∧ some b ≠ lv.ownBlock
/-- Groups of fields; h, g: the last one, which the call owns. -/
structure GrpSt (d base : Nat) (T : Nat → Prop) (eO eF : TypeId) (w : World) (ov : Value) (hs : List SlH) (gs : List (List Fd)) (h : SlH) (g : List Fd) : Prop where
 out : OwnS slhR w base eO All ov (hs ++ [h])
 closed : All2 (fun (x : SlH) l => Sl (fdR (tyR d)) w (fun b => offB ov h.val b ∧ (T b ∨ base ≤ b)) x.val l) hs gs
 last : OwnS (fdR (tyR d)) w base eF T h.val g
 ne : ∀ b, h.val.ownBlock = some b → ov.ownBlock ≠ some b
 le : ∀ b, T b → b < base
 sz : base ≤ w.heap.size
namespace GrpSt
variable {d base : Nat} {T : Nat → Prop} {eO eF : TypeId} {w w' : World} {ov : Value} {hs : List SlH} {gs : List (List Fd)} {h : SlH} {g : List Fd} {f0 : Fd}
theorem ext (s : GrpSt d base T eO eF w ov hs gs h g) (he : Ext w w') : GrpSt d base T eO eF w' ov hs gs h g :=
 ⟨s.out.ext he, s.closed.mono fun _ _ hs => hs.ext he, s.last.ext he, s.ne, s.le, Nat.le_trans s.sz he.size⟩
/-- The last group has grown; the row of groups still holds its old value. -/
theorem grow (s : GrpSt d base T eO eF w ov hs gs h g) {h' : SlH} {g' : List Fd} (hg : w.grownBy w' h.val.ownBlock) (ho : OwnS (fdR (tyR d)) w' base eF T h'.val g')
  (hgb : h'.val.ownBlock = h.val.ownBlock ∨ ∀ b, h'.val.ownBlock = some b → w.heap.size ≤ b) {og n c : Nat} (hov : ov = .slice (some ⟨og, 0, none⟩) n c) :
  GrpSt d base T eO eF (w'.setCell ⟨og, hs.length, none⟩ h'.val) ov hs gs h' g' := by
 have hogb := s.out.block og (by rw [hov]; rfl)
 have hne1 : ov.ownBlock = none ∨ ov.ownBlock ≠ h.val.ownBlock := by
  right
  intro e
  exact s.ne og (by rw [← e, hov]; rfl) (by rw [hov]; rfl)
 have hsz : w.heap.size ≤ w'.heap.size := hg.size
 have hblk : ∀ b, b < w.heap.size → some b ≠ h.val.ownBlock → w'.heap[b]? = w.heap[b]? := fun b h1 h2 => hg.block b h1 h2
 have hne' : ∀ b, h'.val.ownBlock = some b → ov.ownBlock ≠ some b := by
  intro b hb1 hb2
  rcases hgb with e | e
  ·exact s.ne b (by rw [← e]; exact hb1) hb2
  ·have h1 := e b hb1
   have h2 := (s.out.block b hb2).2
   omega
 have hout : OwnS slhR w' base eO All ov (hs ++ [h]) := by
  obtain ⟨xs, ho1, hc⟩ := s.out
  exact ⟨xs, ho1.kept hg hne1, slhP.chunks.2 (slhP.chunks.1 hc)⟩
 have hat : (hs ++ [h])[hs.length]? = some h := by simp
 have hset := slhP.set (y := h') (by rw [hov] at hout; exact hout) hat (i := 0) (u := h'.val) (by simp [slhR]) rfl trivial
 refine ⟨?_, ?_, ?_, hne', s.le, by have := s.sz; simp; omega⟩
 ·rw [hov]
  have e : (hs ++ [h]).set hs.length h' = hs ++ [h'] := by simp
  rw [e] at hset
  simpa [slhR] using hset
 ·refine s.closed.mono fun x l hx => ?_
  have h4 : Sl (fdR (tyR d)) w (fun b => offB ov h'.val b ∧ offB ov h.val b ∧ (T b ∨ base ≤ b)) x.val l := hx.mono fun b hb hi => ⟨⟨hb.1.1, by
   intro e
   rcases hgb with e1 | e1
   ·exact hb.1.2 (by rw [← e1]; exact e)
   ·have := e1 b e.symm
    have := hi.lt
    omega⟩, hb⟩
  have h2 : Sl (fdR (tyR d)) w' (fun b => offB ov h'.val b ∧ (T b ∨ base ≤ b)) x.val l := (h4.keep fun b hb hi => hblk b hi.lt hb.2.1.2).mono fun b hb _ => ⟨hb.1, hb.2.2⟩
  refine h2.keep fun b hb _ => Below.heap_setCell _ _ _ _ ?_
  show b ≠ og
  intro e
  exact hb.1.1 (by rw [hov, e]; rfl)
 ·refine ho.set_far (fun e => hne' og e (by rw [hov]; rfl)) fun b hb => ?_
  have hb' := s.le b hb
  show b ≠ og
  omega
/-- A new group behind: W1 holds its row, W2 the row of groups that has grown by it. -/
theorem new (s : GrpSt d base T eO eF w ov hs gs h g) {W1 W2 : World} {h' : SlH} {g' : List Fd} (he : Ext w W1) (ho : OwnS (fdR (tyR d)) W1 base eF T h'.val g') (hfr : ∀ b, h'.val.ownBlock = some b → w.heap.size ≤ b)
  {ov' : Value} (hg : W1.grownBy W2 ov.ownBlock) (hout : OwnS slhR W2 base eO All ov' (hs ++ [h] ++ [h'])) (hov : ov'.ownBlock = ov.ownBlock ∨ ∀ b, ov'.ownBlock = some b → W1.heap.size ≤ b) :
  GrpSt d base T eO eF W2 ov' (hs ++ [h]) (gs ++ [g]) h' g' := by
 have hsz := he.size
 have hsz2 : W1.heap.size ≤ W2.heap.size := hg.size
 have hblk : ∀ b, b < W1.heap.size → some b ≠ ov.ownBlock → W2.heap[b]? = W1.heap[b]? := fun b h1 h2 => hg.block b h1 h2
 have hoff : ∀ b, b < w.heap.size → some b ≠ ov.ownBlock → offB ov' h'.val b := by
  intro b h1 h2
  constructor
  ·intro e
   rcases hov with e1 | e1
   ·exact h2 (by rw [← e1]; exact e)
   ·have := e1 b e.symm; omega
  ·intro e
   have := hfr b e.symm
   omega
 have hlast : Sl (fdR (tyR d)) w (fun b => some b ≠ ov.ownBlock ∧ (T b ∨ base ≤ b)) h.val g := s.last.slT (fun b hb => ⟨fun e => by
  have hb' := s.le b hb
  have := (s.out.block b e.symm).1
  omega, .inl hb⟩) (fun b hb => ⟨fun e => s.ne b hb e.symm, .inr (s.last.block b hb).1⟩)
 have hmove : ∀ {v : Value} {l : List Fd}, Sl (fdR (tyR d)) w (fun b => some b ≠ ov.ownBlock ∧ (T b ∨ base ≤ b)) v l → Sl (fdR (tyR d)) W2 (fun b => offB ov' h'.val b ∧ (T b ∨ base ≤ b)) v l := by
  intro v l hv
  have h1 : Sl (fdR (tyR d)) w (fun b => ((some b ≠ ov.ownBlock ∧ (T b ∨ base ≤ b)) ∧ b < w.heap.size)) v l := hv.mono fun b hb hi => ⟨hb, hi.lt⟩
  have h2 := (h1.ext he).keep (w' := W2) fun b hb _ => hblk b (by omega) hb.1.1
  exact h2.mono fun b hb _ => ⟨hoff b hb.2 hb.1.1, hb.1.2⟩
 refine ⟨hout, ?_, ?_, ?_, s.le, by have := s.sz; omega⟩
 ·exact (s.closed.mono fun x l hx => hmove (hx.mono fun b hb _ => ⟨hb.1.1, hb.2⟩)).snoc (hmove hlast)
 ·obtain ⟨xs, ho1, hc⟩ := ho
  have hne : h'.val.ownBlock = none ∨ h'.val.ownBlock ≠ ov.ownBlock := by
   right
   intro e
   cases hb : h'.val.ownBlock with
   | none =>
    rw [hb] at e
    obtain ⟨A, c, hA, _⟩ := s.out.form
    rw [hA] at e
    cases A with
    | some a => simp [Value.ownBlock] at e
    | none =>
     have hn := (show OwnS slhR w base eO All (.slice none (hs ++ [h]).length c) (hs ++ [h]) by rw [← hA]; exact s.out).at0 (by simp)
     obtain ⟨q, hq, _⟩ := hn
     cases hq
   | some b =>
    rw [hb] at e
    have h1 := hfr b hb
    have h2 := (s.out.block b e.symm).2
    omega
  refine ⟨xs, ho1.kept hg hne, hc.keep fun b hb hi => hblk b hi.lt fun e => ?_⟩
  have hb' := s.le b hb.1
  have h1 := (s.out.block b e.symm).1
  omega
 ·intro b hb e
  rcases hov with e1 | e1
  ·rw [e1] at e
   have h1 := hfr b hb
   have h2 := (s.out.block b e).2
   omega
  ·have h1 := e1 b e
   have h2 := (ho.block b hb).2
   omega
/-- The first group. -/
theorem first {W1 W2 : World} {h' : SlH} {g' : List Fd} (hl : ∀ b, T b → b < base) (hb : base ≤ W1.heap.size) (ho : OwnS (fdR (tyR d)) W1 base eF T h'.val g')
  {ov' : Value} (hg : W1.grownBy W2 none) (hout : OwnS slhR W2 base eO All ov' [h']) (hov : ∀ b, ov'.ownBlock = some b → W1.heap.size ≤ b) :
  GrpSt d base T eO eF W2 ov' [] [] h' g' := by
 have hsz2 : W1.heap.size ≤ W2.heap.size := hg.size
 refine ⟨hout, trivial, ho.kept hg (by cases h'.val.ownBlock <;> simp) (fun b _ _ hi => hg.block b hi.lt (by simp)), ?_, hl, by omega⟩
 intro b hb1 e
 have h1 := hov b e
 have h2 := (ho.block b hb1).2
 omega
/-- All groups, as data. -/
theorem sl (s : GrpSt d base T eO eF w ov hs gs h g) : Sl (slR (fdR (tyR d))) w (fun b => T b ∨ base ≤ b) ov (gs ++ [g]) := by
 obtain ⟨xs, ho, hc⟩ := s.out
 have hall : All2 (fun (x : SlH) l => Sl (fdR (tyR d)) w (fun b => T b ∨ base ≤ b) x.val l) (hs ++ [h]) (gs ++ [g]) := (s.closed.mono fun x l hx => hx.mono fun b hb _ => hb.2).snoc (s.last.slT (fun b hb => .inl hb) fun b hb => .inr (s.last.block b hb).1)
 have hch : ∀ {hs : List SlH} {gs : List (List Fd)} {xs : List Value}, Chunks slhR w (fun b => All b ∧ some b ≠ ov.ownBlock) xs hs → All2 (fun (x : SlH) l => Sl (fdR (tyR d)) w (fun b => T b ∨ base ≤ b) x.val l) hs gs → Chunks (slR (fdR (tyR d))) w (fun b => T b ∨ base ≤ b) xs gs := by
  intro hs
  induction hs with
  | nil =>
   intro gs xs hc ha
   cases gs with
   | nil => exact hc
   | cons _ _ => exact ha.elim
  | cons x hs ih =>
   intro gs xs hc ha
   cases gs with
   | nil => exact ha.elim
   | cons l gs =>
    obtain ⟨cs, rest, hx, hr, hc'⟩ := hc
    exact ⟨cs, rest, hx, ⟨x.val, hr, ha.1⟩, ih hc' ha.2⟩
 have hc2 := hch hc hall
 have hlen := hall.len
 obtain ⟨A, c, hA, h1, h2⟩ := s.out.form
 rcases ho.2 with ⟨hv, hn⟩ | ⟨q, cap, cur, hv, hq⟩
 ·simp at hn
 ·subst hv
  rw [show (hs ++ [h]).length = (gs ++ [g]).length from hlen]
  refine sl_of_chunks (.inr (s.out.block q rfl).1) hc2 (fun j u hu => ?_) ?_ ?_
  ·have := ho.cells (g := q) rfl j u hu
   have e : (⟨q, 0, none⟩ : Addr).add j = ⟨q, 0 + j, none⟩ := by unfold Addr.add; split <;> simp_all
   rwa [e] at this
  ·rw [← hlen]; exact hq.2.2.1
  ·exact hq.2.2.2.1
/-- The last group's last field written anew. -/
theorem putLast (s : GrpSt d base T eO eF w ov hs gs h (g ++ [f0])) {q n c : Nat} (hh : h.val = .slice (some ⟨q, 0, none⟩) n c) {cs : List Value} {f : Fd} (hr : (fdR (tyR d)).rel w T cs f) :
  GrpSt d base T eO eF (setRow w q (g.length * 6) cs) ov hs gs h (g ++ [f]) := by
 have hq := s.last.block q (by rw [hh]; rfl)
 have hput := OwnS.put (k := g.length) (e := f0) (e' := f) (cs := cs) (by rw [← hh]; exact s.last) (by simp) ((fdR (tyR d)).mono (fun b hb _ => ⟨hb, by have hb' := s.le b hb; omega⟩) hr)
 have e : (g ++ [f0]).set g.length f = g ++ [f] := by simp
 rw [fdR_size, e, ← hh] at hput
 have hogne : ∀ b, ov.ownBlock = some b → b ≠ q := fun b hb e => s.ne q (by rw [hh]; rfl) (by rw [← e]; exact hb)
 have hgr := setRow_grown (q := q) cs w (g.length * 6)
 refine ⟨?_, s.closed.mono fun x l hx => hx.keep fun b hb _ => Go.Deco.setRow_heap cs w q _ b fun e => hb.1.2 (by rw [hh, e]; rfl), hput, s.ne, s.le, Nat.le_trans s.sz hgr.size⟩
 obtain ⟨xs, ho, hc⟩ := s.out
 refine ⟨xs, ho.kept hgr (.inr ?_), slhP.chunks.2 (slhP.chunks.1 hc)⟩
 intro e
 exact hogne q e rfl
end GrpSt
/-- All parts are in some group. -/
theorem grp_flat : ∀ (l : List Fd) (st : List (List Fd) × Int), (l.foldl grpS st).1.flatten.length = st.1.flatten.length + l.length
 | [], st => rfl
 | f :: l, st => by
  rw [List.foldl_cons, grp_flat l]
  have e : (grpS st f).1.flatten.length = st.1.flatten.length + 1 := by
   unfold grpS
   dsimp only
   split
   ·rename_i h
    have h1 : st.1 = st.1.dropLast ++ [st.1.getLast?.getD []] := by
     rw [List.getLast?_eq_some_getLast h.1]
     exact (List.dropLast_concat_getLast h.1).symm
    conv => rhs; rw [h1]
    simp
    omega
   ·simp
  rw [e]
  simp
  omega
theorem grpS_all {Q : List Fd → Prop} (st : List (List Fd) × Int) (f : Fd) (h : ∀ g ∈ st.1, Q g) (h1 : Q [f]) (h2 : ∀ g, Q g → Q (g ++ [f])) : ∀ g ∈ (grpS st f).1, Q g := by
 intro g hg
 unfold grpS at hg
 dsimp only at hg
 split at hg
 ·rename_i hc
  rcases List.mem_append.1 hg with hg | hg
  ·exact h g (List.dropLast_subset _ hg)
  ·rw [List.mem_singleton] at hg
   rw [List.getLast?_eq_some_getLast hc.1] at hg
   rw [hg]
   exact h2 _ (h _ (List.getLast_mem hc.1))
 ·rcases List.mem_append.1 hg with hg | hg
  ·exact h g hg
  ·rw [List.mem_singleton] at hg
   rw [hg]
   exact h1
theorem grp_all {P : Fd → Prop} : ∀ (l : List Fd) (st : List (List Fd) × Int), (∀ f ∈ l, P f) → (∀ g ∈ st.1, g ≠ [] ∧ ∀ x ∈ g, P x) → ∀ g ∈ (l.foldl grpS st).1, g ≠ [] ∧ ∀ x ∈ g, P x
 | [], _, _, h => h
 | f :: l, st, hl, h => by
  have hf := hl f (List.mem_cons_self ..)
  refine grp_all l _ (fun x hx => hl x (List.mem_cons_of_mem _ hx)) (grpS_all st f h ⟨by simp, by simpa using hf⟩ fun g hg => ⟨by simp, fun x hx => ?_⟩)
  rcases List.mem_append.1 hx with hx | hx
  ·exact hg.2 x hx
  ·rw [List.mem_singleton] at hx
   rw [hx]; exact hf
/-- What is known of all parts is known of those of each group; no group is empty or longer than the list. -/
theorem groups_all {P : Fd → Prop} {p : List Fd} (h : ∀ f ∈ p, P f) : ∀ g ∈ groupsF p, g ≠ [] ∧ (∀ x ∈ g, P x) ∧ g.length ≤ p.length := by
 intro g hg
 have h1 := grp_all (P := P) (stab ltF p) ([], 0) (fun f hf => h f ((stabF_mem p f).1 hf)) (fun g hg => by cases hg) g hg
 refine ⟨h1.1, h1.2, ?_⟩
 have h2 := grp_flat (stab ltF p) ([], 0)
 rw [stab_len] at h2
 have h3 : g.length ≤ (groupsF p).flatten.length := by
  have : ∀ (G : List (List Fd)), g ∈ G → g.length ≤ G.flatten.length := by
   intro G
   induction G with
   | nil => intro h; cases h
   | cons a G ih =>
    intro h
    rw [List.flatten_cons, List.length_append]
    rcases List.mem_cons.1 h with rfl | h
    ·omega
    ·have := ih h; omega
  exact this _ hg
 have h4 : (groupsF p).flatten.length = p.length := by
  unfold groupsF
  rw [h2]
  simp
 omega
theorem groups_len (p : List Fd) : (groupsF p).length ≤ p.length := by
 have h2 := grp_flat (stab ltF p) ([], 0)
 rw [stab_len] at h2
 have key : ∀ (G : List (List Fd)), (∀ g ∈ G, g ≠ []) → G.length ≤ G.flatten.length := by
  intro G
  induction G with
  | nil => intro _; simp
  | cons a G ih =>
   intro h
   have h1 := List.length_pos_iff.2 (h a (List.mem_cons_self ..))
   have h2 := ih fun g hg => h g (List.mem_cons_of_mem _ hg)
   rw [List.flatten_cons, List.length_append, List.length_cons]
   omega
 have h3 := key (groupsF p) fun g hg => (groups_all (P := fun _ => True) (fun _ _ => trivial) g hg).1
 have h4 : (groupsF p).flatten.length = p.length := by
  unfold groupsF
  rw [h2]
  simp
 omega
end Go.Deco

namespace Go.Deco
open Go Go.RowKit
set_option linter.unusedVariables false

section
variable {E : Type} {R : Rep E} {w : World} {S : Nat → Prop} {l : List E}
theorem Sl.part {A : Option Addr} {n c i j : Nat} (h : Sl R w S (.slice A n c) l) (hij : i ≤ j) (hj : j ≤ n) :
  ∃ A2, sliced A i j c R.size = .slice A2 (j - i) (c - i) ∧ Sl R w S (.slice A2 (j - i) (c - i)) ((l.drop i).take (j - i)) := by
 have hn := h.len
 obtain ⟨hnc, hcm⟩ := h.cap
 by_cases hl : l = []
 ·subst hl
  simp at hn
  subst hn
  obtain rfl : j = 0 := by omega
  obtain rfl : i = 0 := by omega
  refine ⟨_, rfl, ?_⟩
  obtain ⟨A', c', hv, h1, h2, h3, h4⟩ := h
  simp only [Value.slice.injEq] at hv
  obtain ⟨rfl, _, rfl⟩ := hv
  refine ⟨if c = 0 then A else Option.map (fun x => x.add (0 * R.size)) A, c, by simp, by simp, by simpa using h2, ?_, fun h => absurd (by simp) h⟩
  intro he
  split at he
  ·exact h3 he
  ·cases A with
   | none => exact h3 rfl
   | some a => cases he
 ·obtain ⟨b, off, rfl⟩ := h.at0 (by rw [hn]; exact List.length_pos_iff.2 hl)
  unfold sliced
  refine ⟨_, rfl, ?_⟩
  by_cases hc : c = i
  ·subst hc
   rw [if_pos rfl]
   obtain rfl : j = c := by omega
   have e : (l.drop j).take (j - j) = [] := by simp
   rw [e]
   exact ⟨some ⟨b, off, none⟩, 0, by simp, by simp, by simp [maxLen], by simp, fun h => absurd rfl h⟩
  ·rw [if_neg hc]
   have e : Option.map (fun x : Addr => x.add (i * R.size)) (some ⟨b, off, none⟩) = some ⟨b, off + i * R.size, none⟩ := by
    show some (Addr.add _ _) = _
    unfold Addr.add
    split <;> simp_all
   rw [e]
   exact h.sub hij hj

variable {P : Program}
def CutLo (a : Act) : Option Operand → Nat → Prop
 | none, i => i = 0
 | some x, i => a.eval x = .int .i64 i
def CutHi (a : Act) (n : Nat) : Option Operand → Nat → Prop
 | none, j => j = n
 | some x, j => a.eval x = .int .i64 j

theorem run_part {t e : TypeId} {ti : TypeInfo} (ht : P.underlying t = some (.slice e)) (hi : P.info? e = some ti) (hsz : ti.size = R.size) {A : Option Addr} {n c i j : Nat} (h : Sl R w S (.slice A n c) l)
  (hij : i ≤ j) (hj : j ≤ n) (W : World) (lo hi' : Option Value) (hlo : lo = none ∧ i = 0 ∨ lo = some (.int .i64 i)) (hhi : hi' = none ∧ j = n ∨ hi' = some (.int .i64 j)) :
  ∃ A2, (Instr.slice t (.slice A n c) lo hi' none).run P W = .ok (.slice A2 (j - i) (c - i)) W ∧ Sl R w S (.slice A2 (j - i) (c - i)) ((l.drop i).take (j - i)) := by
 obtain ⟨A2, h1, h2⟩ := h.part hij hj
 obtain ⟨hnc, hcm⟩ := h.cap
 refine ⟨A2, ?_, h2⟩
 have hel : P.elem t = e := by simp [Program.elem, ht]
 have hs : (sizeOf (P.elem t)).run P W = .ok R.size W := by rw [hel]; simp [sizeOf, typeInfo, hi, hsz]
 rw [← h1]
 have ht' : P.underlying t = some (.slice (P.elem t)) := by rw [hel]; exact ht
 rcases hlo with ⟨rfl, rfl⟩ | rfl <;> rcases hhi with ⟨rfl, rfl⟩ | rfl
 ·rw [run_slice_all (ht := ht'), hs]; rfl
 ·rw [run_slice_h (ht := ht') (h0 := by omega) (h2 := by omega), hs]; simp
 ·rw [run_slice_l (ht := ht') (h0 := by omega) (h1 := by omega), hs]; simp
 ·rw [run_slice_lh (ht := ht') (h0 := by omega) (h1 := by omega) (h2 := by omega), hs]; simp

theorem wpList_cut {ops : Array Oper} {rest : List Oper} {o : Oper} {a : Act} {Q : Exit → Act → World → Prop} {W : World} (hgd : o.guard = none) (t e : TypeId) (x : Operand) (lo hi : Option Operand)
  (ho : o.op = .slice t x lo hi none) (ht : P.underlying t = some (.slice e)) (ti : TypeInfo) (hinf : P.info? e = some ti) (R : Rep E) (hsz : ti.size = R.size)
  {A : Option Addr} {n c : Nat} (hx : a.eval x = .slice A n c) (hs : Sl R w S (.slice A n c) l) (i j : Nat) (hlo : CutLo a lo i) (hhi : CutHi a n hi j) (hij : i ≤ j) (hj : j ≤ n)
  (h : ∀ A2, Sl R w S (.slice A2 (j - i) (c - i)) ((l.drop i).take (j - i)) → wpList P ops Q rest (a.put o.dst (.slice A2 (j - i) (c - i))) W) :
  wpList P ops Q (o :: rest) a W :=
 wpList_plain hgd fun _ hK => by
  obtain ⟨A2, h1, h2⟩ := run_part (P := P) ht hinf hsz hs hij hj W (lo.map a.eval) (hi.map a.eval)
   (by cases lo with | none => exact .inl ⟨rfl, hlo⟩ | some y => exact .inr (by show some (a.eval y) = _; rw [show a.eval y = _ from hlo]))
   (by cases hi with | none => exact .inl ⟨rfl, hhi⟩ | some y => exact .inr (by show some (a.eval y) = _; rw [show a.eval y = _ from hhi]))
  unfold Oper.wp execOp
  have hel : P.elem t = e := by simp [Program.elem, ht]
  have ht' : P.underlying t = some (.slice (P.elem t)) := by rw [hel]; exact ht
  simp only [ho, Sem.run_bind, hx, Option.map_none, run_sliceAt_slice (h := ht'), h1, Result.andThen_ok, Sem.run_pure]
  exact hK _ _ (h A2 h2)
theorem wpList_to {ops : Array Oper} {rest : List Oper} {o : Oper} {a : Act} {Q : Exit → Act → World → Prop} {W : World} (hgd : o.guard = none) (t e : TypeId) (x hi : Operand)
  (ho : o.op = .slice t x none (some hi) none) (ht : P.underlying t = some (.slice e)) (ti : TypeInfo) (hinf : P.info? e = some ti) (R : Rep E) (hsz : ti.size = R.size)
  {A : Option Addr} {n c : Nat} (hx : a.eval x = .slice A n c) (hs : Sl R w S (.slice A n c) l) (j : Nat) (hhi : a.eval hi = .int .i64 j) (hj : j ≤ n)
  (h : ∀ A2, Sl R w S (.slice A2 j c) (l.take j) → wpList P ops Q rest (a.put o.dst (.slice A2 j c)) W) : wpList P ops Q (o :: rest) a W :=
 wpList_cut hgd t e x none (some hi) ho ht ti hinf R hsz hx hs 0 j rfl hhi (by omega) hj fun A2 h2 => h A2 (by simpa using h2)
theorem wpList_from {ops : Array Oper} {rest : List Oper} {o : Oper} {a : Act} {Q : Exit → Act → World → Prop} {W : World} (hgd : o.guard = none) (t e : TypeId) (x lo : Operand)
  (ho : o.op = .slice t x (some lo) none none) (ht : P.underlying t = some (.slice e)) (ti : TypeInfo) (hinf : P.info? e = some ti) (R : Rep E) (hsz : ti.size = R.size)
  {A : Option Addr} {n c : Nat} (hx : a.eval x = .slice A n c) (hs : Sl R w S (.slice A n c) l) (i : Nat) (hlo : a.eval lo = .int .i64 i) (hi : i ≤ n)
  (h : ∀ A2, Sl R w S (.slice A2 (n - i) (c - i)) (l.drop i) → wpList P ops Q rest (a.put o.dst (.slice A2 (n - i) (c - i))) W) : wpList P ops Q (o :: rest) a W :=
 wpList_cut hgd t e x (some lo) none ho ht ti hinf R hsz hx hs i n hlo rfl hi (Nat.le_refl _) fun A2 h2 => h A2 (by
  have hn := hs.len
  rwa [List.take_of_length_le (by rw [List.length_drop]; omega)] at h2)
end
end Go.Deco
