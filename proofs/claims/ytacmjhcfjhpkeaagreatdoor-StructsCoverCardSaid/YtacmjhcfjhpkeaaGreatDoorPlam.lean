/- Words for memory used by all walks of this seat: what a slice reads as, a slice that the call owns, and the append laws over them. No program in sight. Sections as plain data, and what the package 'section' computes of them. No program in sight. Recovered types: trees in memory. No program in sight. Recovered types as plain law: what the package 'types' computes of them. No program in sight. Stable sorting as plain law: insertion, merging, exchanging two neighbouring parts of a list. No program in sight. Layouts of accesses as plain law. No program in sight. Recovered types in memory: reading, owning, writing rows of them. No program in sight. Maps whose elements are held as they are, keyed by uint32 or by strings: look-up, store, range, for whatever element type. No program in sight. -/
import Derived.WalkKit
import Derived.WalkSpells
import Derived.WalkLawsBesides
import Derived.BigQuiet
import Derived.Deep.QuietTactic
import Derived.Deep.LoopGhost
import Derived.Deep.Slices
import Derived.Deep.AppendLies
import Derived.Deep.Draws
import Derived.Laws.CopyOwn
import Derived.Maps.AppendAt
import Derived.Laws.OwnMore
import Derived.Maps.OwnSet
import Derived.Maps.RangeWalk
namespace Go.Deco
open Go Go.RowKit

theorem hid {p : Prop} (h : p) : Hid p := h

theorem ret_bool {a b : Bool} (h : a = b) : Ending.returned (.bool a) = .returned (.bool b) := by rw [h]
theorem ret_int {k : IntKind} {a b : Int} (h : a = b) : Ending.returned (.int k a) = .returned (.int k b) := by rw [h]

theorem wf32 {n : Int} (h : (Lit.int .u32 n).wf = true) : 0 ≤ n ∧ n ≤ 4294967295 := by
 simp [Lit.wf, IntKind.min, IntKind.max, IntKind.signed, IntKind.bits] at h
 omega
theorem wf64i {n : Int} (h : (Lit.int .i64 n).wf = true) : -9223372036854775808 ≤ n ∧ n ≤ 9223372036854775807 := by
 simp [Lit.wf, IntKind.min, IntKind.max, IntKind.signed, IntKind.bits] at h
 omega

theorem callFunc_enter {P : Program} {f : FuncId} {fn : Func} (hf : P.funcs[f]? = some fn) (hn : (fn.name == "runtime.NumGoroutine") = false) (hb : fn.body.isNone = false) (args : Array Value) (w : World) :
  (callFunc f args).run P w = .ok (.enter f args) w := by
 have h1 : fn.name ≠ "runtime.NumGoroutine" := by simpa using hn
 have h2 : fn.body ≠ none := by intro h; simp [h] at hb
 simp [callFunc, hf, h1, h2]

/-- The world w' has all that w had, unchanged. -/
def Ext (w w' : World) : Prop := Below w.heap.size w w'

namespace Ext
variable {a b c w w' : World}
theorem below (h : Ext w w') : Below w.heap.size w w' := h
theorem refl (w : World) : Ext w w := Below.refl _ _
theorem trans (h : Ext a b) (k : Ext b c) : Ext a c := Below.trans h (Below.mono k (Below.size h))
theorem size (h : Ext w w') : w.heap.size ≤ w'.heap.size := Below.size h
theorem alloc (h : Ext a w) (o : Obj) : Ext a (w.alloc o) := Below.alloc h (Below.size h) o
theorem drew (h : Ext a w) : Ext a w.drew := Below.drew h
theorem drew_left (h : Ext a.drew w) : Ext a w := Below.trans (Below.drew (Below.refl _ _)) h
theorem drewN (h : Ext a w) (n : Nat) : Ext a (w.drewN n) := Below.trans h ⟨rfl, rfl, rfl, Nat.le_refl _, fun _ _ => rfl⟩
theorem setCell (h : Ext a w) {p : Addr} (hp : a.heap.size ≤ p.block) (u : Value) : Ext a (w.setCell p u) := Below.setCell h hp u
theorem grown (h : Ext a w) {row : Option Nat} (hg : w.grownBy w' row) (hr : ∀ k, row = some k → a.heap.size ≤ k) : Ext a w' :=
 Below.grown h hg (Below.size h) hr
theorem block (h : Ext w w') {k : Nat} (hk : k < w.heap.size) : w'.heap[k]? = w.heap[k]? := Below.block h k hk
theorem cell (h : Ext w w') {p : Addr} {v : Value} (hc : w.cell? p = some v) : w'.cell? p = some v :=
 (Below.cell h (World.block_lt_of_cell? _ _ hc)).trans hc
theorem frozen (h : Ext w w') {p : Addr} (hp : p.block < w.heap.size) : w'.frozen? p = w.frozen? p := Below.frozen h hp
theorem heapAt (h : Ext w w') {k : Nat} {o : Obj} (hk : w.heap[k]? = some o) : w'.heap[k]? = some o :=
 (h.block (Array.getElem?_eq_some_iff.1 hk).1).trans hk
theorem grownBy (h : Ext w w') (row : Option Nat) : w.grownBy w' row := ⟨Below.os h, Below.tape h, Below.output h, Below.size h, fun _ hk _ => h.block hk⟩
end Ext

/-- Block b is a row of cells (and not a map, an iterator ..). -/
def IsCells (w : World) (b : Nat) : Prop := ∃ c e f, w.heap[b]? = some (.cells c e f)
theorem IsCells.lt {w : World} {b : Nat} (h : IsCells w b) : b < w.heap.size := by
 obtain ⟨c, e, f, h⟩ := h
 exact (Array.getElem?_eq_some_iff.1 h).1
theorem isCells_of {w : World} {p : Addr} {u : Value} (h : w.cell? p = some u) : IsCells w p.block := by
 unfold World.cell? at h
 split at h
 ·exact ⟨_, _, _, by assumption⟩
 ·cases h

/-- How cells read as a datum. 'S': in which blocks what the cells lead to may lie. -/
structure Rep (E : Type) where
 size : Nat
 pos : 0 < size
 rel : World → (Nat → Prop) → List Value → E → Prop
 keep : ∀ {w w' : World} {S : Nat → Prop} {cs : List Value} {e : E}, (∀ b, S b → IsCells w b → w'.heap[b]? = w.heap[b]?) → rel w S cs e → rel w' S cs e
 mono : ∀ {w : World} {S S' : Nat → Prop} {cs : List Value} {e : E}, (∀ b, S b → IsCells w b → S' b) → rel w S cs e → rel w S' cs e
 len : ∀ {w : World} {S : Nat → Prop} {cs : List Value} {e : E}, rel w S cs e → cs.length = size
 one : ∀ {w : World} {S : Nat → Prop} {cs : List Value} {e : E}, rel w S cs e → ∀ u ∈ cs, u.oneCell' = true

def All (_ : Nat) : Prop := True

section
variable {E : Type} {R : Rep E} {w w' : World} {S S' : Nat → Prop} {v : Value} {l : List E}

theorem Rep.ext (R : Rep E) {cs : List Value} {e : E} (h : Ext w w') (hr : R.rel w S cs e) : R.rel w' S cs e := R.keep (fun _ _ hb => h.block hb.lt) hr
/-- The slice v reads as the list l. -/
def Sl (R : Rep E) (w : World) (S : Nat → Prop) (v : Value) (l : List E) : Prop :=
 ∃ A c, v = .slice A l.length c ∧ l.length ≤ c ∧ c ≤ maxLen ∧ (A = none → c = 0) ∧
  (l ≠ [] → ∃ b off, A = some ⟨b, off, none⟩ ∧ S b ∧ ∀ k e, l[k]? = some e → ∃ cs, R.rel w S cs e ∧ ∀ j u, cs[j]? = some u → w.cell? ⟨b, off + (k * R.size + j), none⟩ = some u)

theorem Sl.keep (hk : ∀ b, S b → IsCells w b → w'.heap[b]? = w.heap[b]?) (h : Sl R w S v l) : Sl R w' S v l := by
 obtain ⟨A, c, rfl, h1, h2, h3, h4⟩ := h
 refine ⟨A, c, rfl, h1, h2, h3, fun hl => ?_⟩
 obtain ⟨b, off, rfl, hS, hc⟩ := h4 hl
 refine ⟨b, off, rfl, hS, fun k e he => ?_⟩
 obtain ⟨cs, hr, hcs⟩ := hc k e he
 refine ⟨cs, R.keep hk hr, fun j u hu => ?_⟩
 have hcell := hcs j u hu
 exact (World.cell?_of_block (w := w) (hk b hS (isCells_of hcell))).trans hcell

theorem Sl.mono (hk : ∀ b, S b → IsCells w b → S' b) (h : Sl R w S v l) : Sl R w S' v l := by
 obtain ⟨A, c, rfl, h1, h2, h3, h4⟩ := h
 refine ⟨A, c, rfl, h1, h2, h3, fun hl => ?_⟩
 obtain ⟨b, off, rfl, hS, hc⟩ := h4 hl
 refine ⟨b, off, rfl, ?_, fun k e he => ?_⟩
 ·obtain ⟨e0, l0, rfl⟩ := List.exists_cons_of_ne_nil hl
  obtain ⟨cs, hr, hcs⟩ := hc 0 e0 rfl
  have hlen := R.len hr
  have hp := R.pos
  have h0 := hcs 0 cs[0] (List.getElem?_eq_getElem (by omega))
  exact hk b hS (isCells_of h0)
 ·obtain ⟨cs, hr, hcs⟩ := hc k e he
  exact ⟨cs, R.mono hk hr, hcs⟩

theorem Sl.ext (h : Sl R w S v l) (he : Ext w w') : Sl R w' S v l := h.keep fun _ _ hb => he.block hb.lt
theorem Sl.all (h : Sl R w S v l) : Sl R w All v l := h.mono fun _ _ _ => trivial
theorem Sl.form (h : Sl R w S v l) : ∃ A c, v = .slice A l.length c ∧ l.length ≤ c ∧ c ≤ 9223372036854775807 := by
 obtain ⟨A, c, rfl, h1, h2, _⟩ := h
 exact ⟨A, c, rfl, h1, h2⟩
theorem Sl.nil : Sl R w S (.slice none 0 0) ([] : List E) := ⟨none, 0, rfl, by simp, by simp [maxLen], fun _ => rfl, fun h => absurd rfl h⟩
theorem Sl.get {A : Option Addr} {n c k : Nat} {e : E} (h : Sl R w S (.slice A n c) l) (hk : l[k]? = some e) :
  ∃ b off cs, A = some ⟨b, off, none⟩ ∧ R.rel w S cs e ∧ ∀ j u, cs[j]? = some u → w.cell? ⟨b, off + (k * R.size + j), none⟩ = some u := by
 obtain ⟨A', c', hv, h1, h2, h3, h4⟩ := h
 simp only [Value.slice.injEq] at hv
 obtain ⟨rfl, rfl, rfl⟩ := hv
 have hne : l ≠ [] := by rintro rfl; simp at hk
 obtain ⟨b, off, rfl, _, hc⟩ := h4 hne
 obtain ⟨cs, hr, hcs⟩ := hc k e hk
 exact ⟨b, off, cs, rfl, hr, hcs⟩
theorem Sl.len {A : Option Addr} {n c : Nat} (h : Sl R w S (.slice A n c) l) : n = l.length := by
 obtain ⟨A', c', hv, _⟩ := h
 simp only [Value.slice.injEq] at hv
 exact hv.2.1
theorem Sl.cap {A : Option Addr} {n c : Nat} (h : Sl R w S (.slice A n c) l) : n ≤ c ∧ c ≤ 9223372036854775807 := by
 obtain ⟨A', c', hv, h1, h2, _⟩ := h
 simp only [Value.slice.injEq] at hv
 obtain ⟨_, rfl, rfl⟩ := hv
 exact ⟨h1, h2⟩
/-- One address for all its cells. -/
theorem Sl.at0 {A : Option Addr} {n c : Nat} (h : Sl R w S (.slice A n c) l) (hl : 0 < n) : ∃ b off, A = some ⟨b, off, none⟩ := by
 obtain ⟨A', c', hv, h1, h2, h3, h4⟩ := h
 simp only [Value.slice.injEq] at hv
 obtain ⟨rfl, rfl, rfl⟩ := hv
 obtain ⟨b, off, rfl, _⟩ := h4 (by rintro rfl; simp at hl)
 exact ⟨b, off, rfl⟩

/-- A part of the slice. -/
theorem Sl.sub {b off n c i j : Nat} (h : Sl R w S (.slice (some ⟨b, off, none⟩) n c) l) (hij : i ≤ j) (hj : j ≤ n) : Sl R w S (.slice (some ⟨b, off + i * R.size, none⟩) (j - i) (c - i)) ((l.drop i).take (j - i)) := by
 have hn := h.len
 obtain ⟨A', c', hv, h1, h2, h3, h4⟩ := h
 simp only [Value.slice.injEq] at hv
 obtain ⟨hA, _, hc⟩ := hv
 subst hA
 subst hc
 have hl : ((l.drop i).take (j - i)).length = j - i := by rw [List.length_take, List.length_drop]; omega
 refine ⟨_, c - i, by rw [hl], by omega, by omega, by simp, fun hne => ?_⟩
 obtain ⟨b', off', hA, hS, hcell⟩ := h4 (by rintro rfl; simp at hne)
 simp only [Option.some.injEq, Addr.mk.injEq, and_true] at hA
 obtain ⟨rfl, rfl⟩ := hA
 refine ⟨b, off + i * R.size, rfl, hS, fun k e he => ?_⟩
 rw [List.getElem?_take] at he
 split at he
 ·rw [List.getElem?_drop] at he
  obtain ⟨cs, hr, hcs⟩ := hcell (i + k) e he
  refine ⟨cs, hr, fun t u hu => ?_⟩
  have := hcs t u hu
  rwa [show off + ((i + k) * R.size + t) = off + i * R.size + (k * R.size + t) by rw [Nat.add_mul]; omega] at this
 ·cases he

/-! ### Elements, one behind the other -/
def Chunks (R : Rep E) (w : World) (S : Nat → Prop) : List Value → List E → Prop
 | xs, [] => xs = []
 | xs, e :: l => ∃ cs rest, xs = cs ++ rest ∧ R.rel w S cs e ∧ Chunks R w S rest l

theorem Chunks.keep (hk : ∀ b, S b → IsCells w b → w'.heap[b]? = w.heap[b]?) : ∀ {l : List E} {xs : List Value}, Chunks R w S xs l → Chunks R w' S xs l
 | [], _, h => h
 | _ :: _, _, ⟨cs, rest, hx, hr, h⟩ => ⟨cs, rest, hx, R.keep hk hr, Chunks.keep hk h⟩
theorem Chunks.mono (hk : ∀ b, S b → IsCells w b → S' b) : ∀ {l : List E} {xs : List Value}, Chunks R w S xs l → Chunks R w S' xs l
 | [], _, h => h
 | _ :: _, _, ⟨cs, rest, hx, hr, h⟩ => ⟨cs, rest, hx, R.mono hk hr, Chunks.mono hk h⟩
theorem Chunks.append : ∀ {l : List E} {xs ys : List Value} {l' : List E}, Chunks R w S xs l → Chunks R w S ys l' → Chunks R w S (xs ++ ys) (l ++ l')
 | [], _, _, _, h, h' => by rw [show _ = [] from h]; exact h'
 | _ :: _, _, _, _, ⟨cs, rest, hx, hr, h⟩, h' => ⟨cs, rest ++ _, by rw [hx, List.append_assoc], hr, Chunks.append h h'⟩
theorem Chunks.single {cs : List Value} {e : E} (h : R.rel w S cs e) : Chunks R w S cs [e] := ⟨cs, [], by simp, h, rfl⟩
theorem Chunks.length : ∀ {l : List E} {xs : List Value}, Chunks R w S xs l → xs.length = l.length * R.size
 | [], _, h => by rw [show _ = [] from h]; simp
 | _ :: l, _, ⟨cs, rest, hx, hr, h⟩ => by
  rw [hx, List.length_append, R.len hr, Chunks.length h, List.length_cons, Nat.succ_mul, Nat.add_comm]
theorem Chunks.one : ∀ {l : List E} {xs : List Value}, Chunks R w S xs l → ∀ u ∈ xs, u.oneCell' = true
 | [], _, h, u, hu => by rw [show _ = [] from h] at hu; simp at hu
 | _ :: _, _, ⟨cs, rest, hx, hr, h⟩, u, hu => by
  rw [hx, List.mem_append] at hu
  exact hu.elim (R.one hr u) (Chunks.one h u)
theorem Chunks.get : ∀ {l : List E} {xs : List Value} {k : Nat} {e : E}, Chunks R w S xs l → l[k]? = some e → ∃ cs, R.rel w S cs e ∧ ∀ j u, cs[j]? = some u → xs[k * R.size + j]? = some u
 | [], _, _, _, _, hk => by simp at hk
 | _ :: _, _, 0, _, ⟨cs, rest, hx, hr, h⟩, hk => by
  simp at hk
  subst hk
  refine ⟨cs, hr, fun j u hu => ?_⟩
  rw [hx, Nat.zero_mul, Nat.zero_add, List.getElem?_append_left (List.getElem?_eq_some_iff.1 hu).1]
  exact hu
 | _ :: _, _, k + 1, _, ⟨cs, rest, hx, hr, h⟩, hk => by
  obtain ⟨cs', hr', hc'⟩ := Chunks.get h (by simpa using hk)
  refine ⟨cs', hr', fun j u hu => ?_⟩
  have hl := R.len hr
  rw [hx, List.getElem?_append_right (by rw [hl, Nat.succ_mul]; omega), hl, show (k + 1) * R.size + j - R.size = k * R.size + j by rw [Nat.succ_mul]; omega]
  exact hc' j u hu

/-- The elements of a slice as one row of cells. -/
theorem chunks_of (b off : Nat) : ∀ (l : List E) (k0 : Nat), (∀ k e, l[k]? = some e → ∃ cs, R.rel w S cs e ∧ ∀ j u, cs[j]? = some u → w.cell? ⟨b, off + ((k0 + k) * R.size + j), none⟩ = some u) →
  ∃ xs, Chunks R w S xs l ∧ ∀ j u, xs[j]? = some u → w.cell? ⟨b, off + (k0 * R.size + j), none⟩ = some u
 | [], _, _ => ⟨[], rfl, fun j u hu => by simp at hu⟩
 | e :: l, k0, h => by
  obtain ⟨cs, hr, hc⟩ := h 0 e rfl
  obtain ⟨xs, hx, hxc⟩ := chunks_of b off l (k0 + 1) (fun k e' he => by
   have := h (k + 1) e' (by simpa using he)
   rwa [show k0 + (k + 1) = k0 + 1 + k by omega] at this)
  refine ⟨cs ++ xs, ⟨cs, xs, rfl, hr, hx⟩, fun j u hu => ?_⟩
  have hl := R.len hr
  by_cases hj : j < cs.length
  ·rw [List.getElem?_append_left hj] at hu
   simpa using hc j u hu
  ·rw [List.getElem?_append_right (by omega)] at hu
   have := hxc _ u hu
   rwa [show (k0 + 1) * R.size + (j - cs.length) = k0 * R.size + j by rw [Nat.succ_mul]; omega] at this

theorem Sl.chunks {b off n c : Nat} (h : Sl R w S (.slice (some ⟨b, off, none⟩) n c) l) : ∃ xs, Chunks R w S xs l ∧ ∀ j u, xs[j]? = some u → w.cell? ⟨b, off + j, none⟩ = some u := by
 by_cases hl : l = []
 ·subst hl
  exact ⟨[], rfl, fun j u hu => by simp at hu⟩
 ·obtain ⟨A', c', hv, h1, h2, h3, h4⟩ := h
  simp only [Value.slice.injEq] at hv
  obtain ⟨hA, _, _⟩ := hv
  subst hA
  obtain ⟨b', off', hA, _, hc⟩ := h4 hl
  simp only [Option.some.injEq, Addr.mk.injEq, and_true] at hA
  obtain ⟨rfl, rfl⟩ := hA
  obtain ⟨xs, hx, hxc⟩ := chunks_of b off l 0 (by simpa using hc)
  exact ⟨xs, hx, by simpa using hxc⟩

theorem Sl.chunksA {ad : Addr} {n c : Nat} (h : Sl R w S (.slice (some ad) n c) l) : ∃ xs, Chunks R w S xs l ∧ ∀ j u, xs[j]? = some u → w.cell? (ad.add j) = some u := by
 by_cases hl : l = []
 ·subst hl
  exact ⟨[], rfl, fun j u hu => by simp at hu⟩
 ·obtain ⟨b, off, hA⟩ := h.at0 (by rw [h.len]; exact List.length_pos_iff.2 hl)
  injection hA with hA
  subst hA
  obtain ⟨xs, hx, hc⟩ := h.chunks
  refine ⟨xs, hx, fun j u hu => ?_⟩
  have e : (⟨b, off, none⟩ : Addr).add j = ⟨b, off + j, none⟩ := by unfold Addr.add; split <;> simp_all
  rw [e]
  exact hc j u hu

theorem sl_of_chunks {b off c : Nat} {xs : List Value} (hS : S b) (h : Chunks R w S xs l) (hc : ∀ j u, xs[j]? = some u → w.cell? ⟨b, off + j, none⟩ = some u) (h1 : l.length ≤ c) (h2 : c ≤ maxLen) :
  Sl R w S (.slice (some ⟨b, off, none⟩) l.length c) l := by
 refine ⟨_, c, rfl, h1, h2, by simp, fun _ => ⟨b, off, rfl, hS, fun k e he => ?_⟩⟩
 obtain ⟨cs, hr, hg⟩ := h.get he
 exact ⟨cs, hr, fun j u hu => hc _ u (hg j u hu)⟩

/-! ### A slice that the call owns -/
def OwnS (R : Rep E) (w : World) (base : Nat) (e : TypeId) (T : Nat → Prop) (v : Value) (l : List E) : Prop :=
 ∃ xs, w.ownsRow base e R.size v l.length xs ∧ Chunks R w (fun b => T b ∧ some b ≠ v.ownBlock) xs l
/-- .. wherever what its elements lead to may lie. -/
abbrev Own (R : Rep E) (w : World) (base : Nat) (e : TypeId) (v : Value) (l : List E) : Prop := OwnS R w base e All v l

variable {base : Nat} {e : TypeId} {T : Nat → Prop}
theorem OwnS.nil : OwnS R w base e T (.slice none 0 0) ([] : List E) := ⟨[], by simpa using World.ownsRow_nil w base e R.size, rfl⟩
theorem OwnS.ext (h : OwnS R w base e T v l) (he : Ext w w') : OwnS R w' base e T v l := by
 obtain ⟨xs, ho, hc⟩ := h
 exact ⟨xs, ho.kept (he.grownBy none) (by cases v.ownBlock <;> simp), hc.keep fun b _ hb => he.block hb.lt⟩
theorem OwnS.al (h : OwnS R w base e T v l) (o : Obj) : OwnS R (w.alloc o) base e T v l := h.ext ((Ext.refl w).alloc o)
theorem OwnS.dr (h : OwnS R w base e T v l) : OwnS R w.drew base e T v l := h.ext (Ext.refl w).drew
theorem OwnS.drN (h : OwnS R w base e T v l) (n : Nat) : OwnS R (w.drewN n) base e T v l := h.ext ((Ext.refl w).drewN n)
theorem OwnS.form (h : OwnS R w base e T v l) : ∃ A c, v = .slice A l.length c ∧ l.length ≤ c ∧ c ≤ 9223372036854775807 := by
 obtain ⟨xs, ho, _⟩ := h
 rcases ho.2 with ⟨rfl, hn⟩ | ⟨g, cap, cur, rfl, _, _, h1, h2, _⟩
 ·exact ⟨none, 0, by rw [hn], by omega, by omega⟩
 ·exact ⟨_, cap, rfl, h1, by simpa [maxLen] using h2⟩
theorem OwnS.sl (h : OwnS R w base e T v l) : Sl R w All v l := by
 obtain ⟨xs, ho, hc⟩ := h
 have hc' : Chunks R w All xs l := hc.mono fun _ _ _ => trivial
 rcases ho.2 with ⟨rfl, hn⟩ | ⟨g, cap, cur, rfl, _, hg, h1, h2, _⟩
 ·obtain rfl : l = [] := List.eq_nil_of_length_eq_zero hn
  exact Sl.nil
 ·refine sl_of_chunks trivial hc' (fun j u hu => ?_) h1 h2
  have := ho.cells (g := g) rfl j u hu
  have e : (⟨g, 0, none⟩ : Addr).add j = ⟨g, 0 + j, none⟩ := by unfold Addr.add; split <;> simp_all
  rwa [e] at this
/-- Where what is owned lies. -/
theorem OwnS.block (h : OwnS R w base e T v l) : ∀ k, v.ownBlock = some k → base ≤ k ∧ k < w.heap.size := by
 obtain ⟨xs, ho, _⟩ := h
 exact ho.lt
theorem OwnS.kept {row : Option Nat} (h : OwnS R w base e T v l) (hg : w.grownBy w' row) (hne : v.ownBlock = none ∨ v.ownBlock ≠ row) (hk : ∀ b, T b → some b ≠ v.ownBlock → IsCells w b → w'.heap[b]? = w.heap[b]?) : OwnS R w' base e T v l := by
 obtain ⟨xs, ho, hc⟩ := h
 exact ⟨xs, ho.kept hg hne, hc.keep fun b hb hi => hk b hb.1 hb.2 hi⟩
theorem own_ne {b g n c : Nat} (h : b < g) : some b ≠ (Value.slice (some ⟨g, 0, none⟩) n c).ownBlock := by
 intro he
 simp only [Value.ownBlock, Option.some.injEq] at he
 omega
theorem own_at {g n c k : Nat} (h : (Value.slice (some ⟨g, 0, none⟩) n c).ownBlock = some k) : k = g := by
 simp only [Value.ownBlock, Option.some.injEq] at h
 exact h.symm
theorem own_nil {b : Nat} : some b ≠ (Value.slice none 0 0).ownBlock := by simp [Value.ownBlock]

/-- A store elsewhere. -/
theorem OwnS.set_far (h : OwnS R w base e T v l) {p : Addr} {u : Value} (hp : v.ownBlock ≠ some p.block) (hT : ∀ b, T b → b ≠ p.block) : OwnS R (w.setCell p u) base e T v l := by
 refine h.kept (row := some p.block) ⟨rfl, rfl, rfl, by simp, fun k _ hk => Below.heap_setCell _ _ _ _ (fun e => hk (by rw [e]))⟩ (.inr hp) fun b hb _ _ => Below.heap_setCell _ _ _ _ (hT b hb)
theorem OwnS.slT (h : OwnS R w base e T v l) (h1 : ∀ b, T b → S b) (h2 : ∀ k, v.ownBlock = some k → S k) : Sl R w S v l := by
 obtain ⟨xs, ho, hc⟩ := h
 have hc' : Chunks R w S xs l := hc.mono fun b hb _ => h1 b hb.1
 rcases ho.2 with ⟨rfl, hn⟩ | ⟨g, cap, cur, rfl, _, hg, h3, h4, _⟩
 ·obtain rfl : l = [] := List.eq_nil_of_length_eq_zero hn
  exact Sl.nil
 ·refine sl_of_chunks (h2 g rfl) hc' (fun j u hu => ?_) h3 h4
  have := ho.cells (g := g) rfl j u hu
  have e : (⟨g, 0, none⟩ : Addr).add j = ⟨g, 0 + j, none⟩ := by unfold Addr.add; split <;> simp_all
  rwa [e] at this

/-- '[]T' with no element, just made. -/
theorem OwnS.fresh0 (w : World) (hb : base ≤ w.heap.size) : OwnS R (w.alloc (.cells #[] e)) base e T (.slice (some ⟨w.heap.size, 0, none⟩) 0 0) ([] : List E) :=
 ⟨[], by simpa using World.ownsRow_made w #[] 0 hb (by simp [maxLen]) (by simp), rfl⟩

theorem new_cells (w : World) (cs : List Value) (t : TypeId) : ∀ j u, cs[j]? = some u → (w.alloc (.cells cs.toArray t)).cell? ((⟨w.heap.size, 0, none⟩ : Addr).add j) = some u := by
 intro j u hu
 have e : (⟨w.heap.size, 0, none⟩ : Addr).add j = ⟨w.heap.size, j, none⟩ := by unfold Addr.add; split <;> simp_all
 rw [e]
 simpa using hu

/-! ### append -/
section
variable {P : Program}

theorem run_append_sl (W : World) (t ty e : TypeId) (i : TypeInfo) (z : Value) (size bytes : Nat) (ht : P.underlying t = some (.slice e)) (hi : P.info? e = some i) (hz : i.zero = some z)
  (hsize : i.size = size) (hby : i.bytes = bytes) (hzs : z.cells.size = size) (hR : R.size = size)
  (v : Value) (l : List E) (hown : OwnS R W base e T v l)
  (ad : Addr) (m c : Nat) (ys : List E) (news : List Value) (hm : m = ys.length) (hnews : Chunks R W (fun b => T b ∧ some b ≠ v.ownBlock) news ys)
  (hcell : ∀ j u, news[j]? = some u → W.cell? (ad.add j) = some u)
  (h63 : l.length + m ≤ 9223372036854775807) (hbytes : (l.length + m) * bytes ≤ 140737488355328) (hbase : base ≤ W.heap.size) :
  ∃ A' c' W', (Builtin.append_ #[t, t] ty #[v, .slice (some ad) m c]).run P W = .ok (.slice A' (l.length + m) c') W' ∧ OwnS R W' base e T (.slice A' (l.length + m) c') (l ++ ys) ∧ W.grownBy W' v.ownBlock ∧
   ((Value.slice A' (l.length + m) c').ownBlock = v.ownBlock ∨ (Value.slice A' (l.length + m) c').ownBlock = some W.heap.size) := by
 obtain ⟨xs, ho, hc⟩ := hown
 have hpos := R.pos
 subst hm
 subst hR
 obtain ⟨v', W', hrun, h2, h3, _, h5⟩ := run_append_own_at (P := P) W base t ty e i z R.size bytes ht hi hz hsize hby hzs hpos v l.length xs ho ad ys.length c news hnews.length hcell hnews.one (by simpa [maxLen] using h63) hbytes hbase
 have hform : ∃ A' c', v' = .slice A' (l.length + ys.length) c' := by
  rcases h2.2 with ⟨rfl, hn⟩ | ⟨g, cap, cur, rfl, _⟩
  ·exact ⟨none, 0, by rw [hn]⟩
  ·exact ⟨_, _, rfl⟩
 obtain ⟨A', c', rfl⟩ := hform
 refine ⟨A', c', W', hrun, ⟨xs ++ news, by simpa using h2, ?_⟩, h3, h5⟩
 have hcat := hc.append hnews
 have hk : Chunks R W' (fun b => (T b ∧ some b ≠ v.ownBlock) ∧ b < W.heap.size) (xs ++ news) (l ++ ys) :=
  (hcat.mono (S' := fun b => (T b ∧ some b ≠ v.ownBlock) ∧ b < W.heap.size) fun b hb hlt => ⟨hb, hlt.lt⟩).keep fun b hb hlt => h3.block b hlt.lt hb.1.2
 refine hk.mono fun b hb _ => ⟨hb.1.1, ?_⟩
 rcases h5 with e | e <;> rw [e]
 ·exact hb.1.2
 ·intro he
  injection he with he
  omega

theorem wpList_app {ops : Array Oper} {rest : List Oper} {o : Oper} {a : Act} {Q : Exit → Act → World → Prop} {W : World} (hgd : o.guard = none) (s x : Operand) (t : TypeId)
  (ho : o.op = .call { callee := .builtin .append, args := #[s, x], argTypes := #[t, t] })
  (base : Nat) (e : TypeId) (i : TypeInfo) (z : Value) (size bytes : Nat) (ht : P.underlying t = some (.slice e)) (hi : P.info? e = some i) (hz : i.zero = some z)
  (hsize : i.size = size) (hby : i.bytes = bytes) (hzs : z.cells.size = size) (R : Rep E) (hR : R.size = size)
  (v : Value) (l : List E) (hs : a.eval s = v) (hown : OwnS R W base e T v l)
  (ad : Addr) (m c : Nat) (ys : List E) (news : List Value) (hx : a.eval x = .slice (some ad) m c) (hm : m = ys.length) (hnews : Chunks R W (fun b => T b ∧ some b ≠ v.ownBlock) news ys)
  (hcell : ∀ j u, news[j]? = some u → W.cell? (ad.add j) = some u)
  (h63 : l.length + m ≤ 9223372036854775807) (hbytes : (l.length + m) * bytes ≤ 140737488355328) (hbase : base ≤ W.heap.size)
  (h : ∀ A' c' W', OwnS R W' base e T (.slice A' (l.length + m) c') (l ++ ys) → W.grownBy W' v.ownBlock →
   ((Value.slice A' (l.length + m) c').ownBlock = v.ownBlock ∨ (Value.slice A' (l.length + m) c').ownBlock = some W.heap.size) → wpList P ops Q rest (a.put o.dst (.slice A' (l.length + m) c')) W') :
  wpList P ops Q (o :: rest) a W :=
 wpList_plain hgd fun _ hK => by
  obtain ⟨A', c', W', hrun, h2, h3, h4⟩ := run_append_sl (P := P) W t o.type e i z size bytes ht hi hz hsize hby hzs hR v l hown ad m c ys news hm hnews hcell h63 hbytes hbase
  unfold Oper.wp execOp
  simp only [ho, resolve, invoke, builtin, Sem.run_bind, Sem.run_pure, Result.andThen_ok, List.map_toArray, List.map_cons, List.map_nil, hs, hx, hrun]
  exact hK _ _ (h A' c' W' h2 h3 h4)

theorem run_append_nilsrc (W : World) (t ty e : TypeId) (i : TypeInfo) (ht : P.underlying t = some (.slice e)) (hi : P.info? e = some i)
  (v : Value) (l : List E) (hown : OwnS R W base e T v l) (c : Nat) : (Builtin.append_ #[t, t] ty #[v, .slice none 0 c]).run P W = .ok v W := by
 obtain ⟨xs, ho, _⟩ := hown
 rcases ho.2 with ⟨rfl, _⟩ | ⟨g, cap, cur, rfl, _, _, hnc, _⟩
 ·simp [Builtin.append_, run_underlying ht, sizeOf, typeInfo, hi, Builtin.lenOf, Builtin.firstCells]
 ·simp [Builtin.append_, run_underlying ht, sizeOf, typeInfo, hi, Builtin.lenOf, Builtin.firstCells, hnc, storeCells]

/-- append of whatever slice, nil or not. -/
theorem run_append_any' (W : World) (t ty e : TypeId) (i : TypeInfo) (z : Value) (size bytes : Nat) (ht : P.underlying t = some (.slice e)) (hi : P.info? e = some i) (hz : i.zero = some z)
  (hsize : i.size = size) (hby : i.bytes = bytes) (hzs : z.cells.size = size) (hR : R.size = size)
  (v : Value) (l : List E) (hown : OwnS R W base e T v l)
  (A : Option Addr) (m c : Nat) (ys : List E) (hsrc : Sl R W S (.slice A m c) ys) (hS : ∀ b, S b → IsCells W b → T b ∧ some b ≠ v.ownBlock)
  (h63 : l.length + m ≤ 9223372036854775807) (hbytes : (l.length + m) * bytes ≤ 140737488355328) (hbase : base ≤ W.heap.size) :
  ∃ A' c' W', (Builtin.append_ #[t, t] ty #[v, .slice A m c]).run P W = .ok (.slice A' (l.length + m) c') W' ∧ OwnS R W' base e T (.slice A' (l.length + m) c') (l ++ ys) ∧ W.grownBy W' v.ownBlock ∧
   ((Value.slice A' (l.length + m) c').ownBlock = v.ownBlock ∨ (Value.slice A' (l.length + m) c').ownBlock = some W.heap.size) := by
 have hm := hsrc.len
 rcases A with _ | ad
 ·have hys : ys = [] := by
   cases ys with
   | nil => rfl
   | cons y ys =>
    obtain ⟨b, off, h⟩ := hsrc.at0 (by rw [hm]; simp)
    cases h
  subst hys
  obtain rfl : m = 0 := by simpa using hm
  obtain ⟨A0, c0, hv, _⟩ := hown.form
  subst hv
  exact ⟨A0, c0, W, run_append_nilsrc W t ty e i ht hi _ l hown c, by simpa using hown, World.grownBy.refl W _, .inl rfl⟩
 ·obtain ⟨news, hc, hcell⟩ := hsrc.chunksA
  exact run_append_sl W t ty e i z size bytes ht hi hz hsize hby hzs hR v l hown ad m c ys news hm (hc.mono hS) hcell h63 hbytes hbase

theorem wpList_appS {ops : Array Oper} {rest : List Oper} {o : Oper} {a : Act} {Q : Exit → Act → World → Prop} {W : World} (hgd : o.guard = none) (s x : Operand) (t : TypeId)
  (ho : o.op = .call { callee := .builtin .append, args := #[s, x], argTypes := #[t, t] })
  (base : Nat) (e : TypeId) (i : TypeInfo) (z : Value) (size bytes : Nat) (ht : P.underlying t = some (.slice e)) (hi : P.info? e = some i) (hz : i.zero = some z)
  (hsize : i.size = size) (hby : i.bytes = bytes) (hzs : z.cells.size = size) (R : Rep E) (hR : R.size = size)
  (v : Value) (l : List E) (hs : a.eval s = v) (hown : OwnS R W base e T v l)
  (A : Option Addr) (m c : Nat) (ys : List E) (S : Nat → Prop) (hx : a.eval x = .slice A m c) (hsrc : Sl R W S (.slice A m c) ys) (hS : ∀ b, S b → IsCells W b → T b ∧ some b ≠ v.ownBlock)
  (h63 : l.length + m ≤ 9223372036854775807) (hbytes : (l.length + m) * bytes ≤ 140737488355328) (hbase : base ≤ W.heap.size)
  (h : ∀ A' c' W', OwnS R W' base e T (.slice A' (l.length + m) c') (l ++ ys) → W.grownBy W' v.ownBlock →
   ((Value.slice A' (l.length + m) c').ownBlock = v.ownBlock ∨ (Value.slice A' (l.length + m) c').ownBlock = some W.heap.size) → wpList P ops Q rest (a.put o.dst (.slice A' (l.length + m) c')) W') :
  wpList P ops Q (o :: rest) a W :=
 wpList_plain hgd fun _ hK => by
  obtain ⟨A', c', W', hrun, h2, h3, h4⟩ := run_append_any' (P := P) W t o.type e i z size bytes ht hi hz hsize hby hzs hR v l hown A m c ys hsrc hS h63 hbytes hbase
  unfold Oper.wp execOp
  simp only [ho, resolve, invoke, builtin, Sem.run_bind, Sem.run_pure, Result.andThen_ok, List.map_toArray, List.map_cons, List.map_nil, hs, hx, hrun]
  exact hK _ _ (h A' c' W' h2 h3 h4)

/-- 'out = append(out, x)', x just laid in a new block. -/
theorem wpList_app1 {ops : Array Oper} {rest : List Oper} {o : Oper} {a : Act} {Q : Exit → Act → World → Prop} {W : World} {cs : List Value} {u : TypeId} (hgd : o.guard = none) (s x : Operand) (t : TypeId)
  (ho : o.op = .call { callee := .builtin .append, args := #[s, x], argTypes := #[t, t] })
  (base : Nat) (e : TypeId) (i : TypeInfo) (z : Value) (size bytes : Nat) (ht : P.underlying t = some (.slice e)) (hi : P.info? e = some i) (hz : i.zero = some z)
  (hsize : i.size = size) (hby : i.bytes = bytes) (hzs : z.cells.size = size) (R : Rep E) (hR : R.size = size)
  (v : Value) (l : List E) (hs : a.eval s = v) (hown : OwnS R W base e T v l)
  (y : E) (hx : a.eval x = .slice (some ⟨W.heap.size, 0, none⟩) 1 1) (hy : R.rel W (fun b => T b ∧ some b ≠ v.ownBlock) cs y)
  (h63 : l.length + 1 ≤ 9223372036854775807) (hbytes : (l.length + 1) * bytes ≤ 140737488355328) (hbase : base ≤ W.heap.size)
  (h : ∀ A' c' W', OwnS R W' base e T (.slice A' (l.length + 1) c') (l ++ [y]) → (W.alloc (.cells cs.toArray u)).grownBy W' v.ownBlock →
   wpList P ops Q rest (a.put o.dst (.slice A' (l.length + 1) c')) W') :
  wpList P ops Q (o :: rest) a (W.alloc (.cells cs.toArray u)) :=
 wpList_app hgd s x t ho base e i z size bytes ht hi hz hsize hby hzs R hR v l hs (hown.al _) ⟨W.heap.size, 0, none⟩ 1 1 [y] cs hx rfl
  (Chunks.single (R.ext ((Ext.refl W).alloc _) hy)) (new_cells W cs u) h63 hbytes (by simp; omega) fun A' c' W' h1 h2 _ => h A' c' W' h1 h2
end
end

/-! ### Plain elements -/
def numR (k : IntKind) (bd : Nat) : Rep Nat where
 size := 1
 pos := by omega
 rel _ _ cs x := cs = [.int k x] ∧ x < bd
 keep _ h := h
 mono _ h := h
 len h := by rw [h.1]; rfl
 one h u hu := by rw [h.1] at hu; simp at hu; rw [hu]; rfl
abbrev u8R : Rep Nat := numR .u8 256
abbrev u32R : Rep Nat := numR .u32 4294967296
def i64R : Rep Int where
 size := 1
 pos := by omega
 rel _ _ cs x := cs = [.int .i64 x] ∧ -9223372036854775808 ≤ x ∧ x ≤ 9223372036854775807
 keep _ h := h
 mono _ h := h
 len h := by rw [h.1]; rfl
 one h u hu := by rw [h.1] at hu; simp at hu; rw [hu]; rfl
/-- A slice as an element. -/
def slR {E : Type} (R : Rep E) : Rep (List E) where
 size := 1
 pos := by omega
 rel w S cs l := ∃ v, cs = [v] ∧ Sl R w S v l
 keep hk := fun ⟨v, h1, h2⟩ => ⟨v, h1, h2.keep hk⟩
 mono hk := fun ⟨v, h1, h2⟩ => ⟨v, h1, h2.mono hk⟩
 len := fun ⟨v, h1, _⟩ => by rw [h1]; rfl
 one := fun ⟨v, h1, h2⟩ u hu => by
  obtain ⟨A, c, rfl, _⟩ := h2.form
  rw [h1] at hu; simp at hu; rw [hu]; rfl

section
variable {w : World} {S T : Nat → Prop} {A : Option Addr} {n c k : Nat}
theorem OwnS.at0 {E : Type} {R : Rep E} {base : Nat} {e : TypeId} {l : List E} (h : OwnS R w base e T (.slice A n c) l) (hn : 0 < n) : ∃ g, A = some ⟨g, 0, none⟩ ∧ base ≤ g ∧ g < w.heap.size := by
 obtain ⟨xs, ho, _⟩ := h
 have hlt := ho.lt
 rcases ho.2 with ⟨hv, h0⟩ | ⟨g, cap, cur, hv, _⟩
 ·injection hv with _ hv _
  omega
 ·injection hv with hA _ _
  subst hA
  have := hlt g rfl
  exact ⟨g, rfl, this.1, this.2⟩
theorem OwnS.len {E : Type} {R : Rep E} {base : Nat} {e : TypeId} {l : List E} (h : OwnS R w base e T (.slice A n c) l) : n = l.length := by
 obtain ⟨A', c', hv, _⟩ := h.form
 injection hv
theorem chunks_num {kd : IntKind} {bd : Nat} : ∀ {l : List Nat} {xs : List Value}, Chunks (numR kd bd) w S xs l ↔ (xs = l.map (fun x : Nat => Value.int kd x) ∧ ∀ x ∈ l, x < bd)
 | [], xs => by simp [Chunks]
 | y :: l, xs => by
  constructor
  ·rintro ⟨cs, rest, rfl, ⟨rfl, hy⟩, h⟩
   obtain ⟨h1, h2⟩ := chunks_num.1 h
   refine ⟨by rw [h1]; rfl, fun x hx => ?_⟩
   rcases List.mem_cons.1 hx with rfl | hx
   ·exact hy
   ·exact h2 x hx
  ·rintro ⟨rfl, h⟩
   exact ⟨_, _, rfl, ⟨rfl, h y (by simp)⟩, chunks_num.2 ⟨rfl, fun x hx => h x (by simp [hx])⟩⟩
theorem OwnS.num_lt {kd : IntKind} {bd base : Nat} {e : TypeId} {l : List Nat} {v : Value} (h : OwnS (numR kd bd) w base e T v l) : ∀ x ∈ l, x < bd := by
 obtain ⟨xs, _, hc⟩ := h
 exact (chunks_num.1 hc).2
theorem OwnS.num_cell {kd : IntKind} {bd base g : Nat} {e : TypeId} {l : List Nat} (h : OwnS (numR kd bd) w base e T (.slice (some ⟨g, 0, none⟩) n c) l) {x : Nat} (hk : l[k]? = some x) :
  w.cell? ⟨g, k, none⟩ = some (.int kd x) ∧ w.frozen? ⟨g, k, none⟩ = false := by
 have hn := h.len
 obtain ⟨xs, ho, hc⟩ := h
 obtain ⟨rfl, _⟩ := chunks_num.1 hc
 rw [← hn] at ho
 refine ⟨?_, ho.frozenAt k⟩
 rw [ho.cellAt k (by have := (List.getElem?_eq_some_iff.1 hk).1; simp [numR]; omega), List.getElem?_map, hk]
 rfl
theorem OwnS.num_set {kd : IntKind} {bd base g : Nat} {e : TypeId} {l : List Nat} (h : OwnS (numR kd bd) w base e T (.slice (some ⟨g, 0, none⟩) n c) l) {x : Nat} (hx : x < bd) (k : Nat) :
  OwnS (numR kd bd) (w.setCell ⟨g, k, none⟩ (.int kd x)) base e T (.slice (some ⟨g, 0, none⟩) n c) (l.set k x) := by
 obtain ⟨xs, ho, hc⟩ := h
 obtain ⟨rfl, hb⟩ := chunks_num.1 hc
 have hn : n = l.length := by
  rcases ho.2 with ⟨hv, _⟩ | ⟨_, _, _, hv, _⟩
  ·cases hv
  ·injection hv
 subst hn
 refine ⟨(l.set k x).map (fun x : Nat => Value.int kd x), ?_, chunks_num.2 ⟨rfl, fun y hy => ?_⟩⟩
 ·have := (ho.stored k (.int kd x)).1
  rw [List.length_set, List.map_set]
  exact this
 ·rcases List.mem_or_eq_of_mem_set hy with h | rfl
  ·exact hb y h
  ·exact hx
theorem Sl.num_at {kd : IntKind} {bd : Nat} {l : List Nat} {x : Nat} (h : Sl (numR kd bd) w S (.slice A n c) l) (hk : l[k]? = some x) :
  ∃ b off, A = some ⟨b, off, none⟩ ∧ w.cell? ⟨b, off + k, none⟩ = some (.int kd x) ∧ x < bd := by
 obtain ⟨b, off, cs, hA, ⟨hcs, hb⟩, hc⟩ := h.get hk
 subst hcs
 exact ⟨b, off, hA, by simpa [numR] using hc 0 _ rfl, hb⟩
end

end Go.Deco

namespace Go.Deco
open Go Go.RowKit

structure Sec where
 name : ByteArray
 addr : Nat
 data : List Nat
 wr : Bool
 ex : Bool

def okCh (c : Nat) : Bool := (97 ≤ c && c ≤ 122) || (65 ≤ c && c ≤ 90) || (48 ≤ c && c ≤ 57) || c == 95 || c == 46
def nameB (s : ByteArray) : Bool := s.data.toList.all (fun c => okCh c.toNat) && decide (1 ≤ s.size) && decide (s.size ≤ 32)

def chAt (s : ByteArray) (k : Nat) : Nat := (s.data.toList[k]?.map (·.toNat)).getD 0
def secTo (s : Sec) : Nat := min (s.addr + s.data.length) 4294967295
def meetN (a b c d : Nat) : Bool := decide (max a c < min b d)
def secMeet (x y : Sec) : Bool := meetN x.addr (secTo x) y.addr (secTo y)
def secErr (pre : List Sec) (s : Sec) : Nat :=
 if 65536 < s.data.length then 6 else if nameB s.name = false then 3 else if pre.any (fun x => x.name.toList == s.name.toList) then 8
 else if 4294967295 < s.addr + s.data.length ∨ meetN s.addr (secTo s) 978944 983040 = true then 7 else 0
def firstErr (pre : List Sec) : List Sec → Nat
 | [] => 0
 | s :: r => if secErr pre s = 0 then firstErr (pre ++ [s]) r else secErr pre s
def overl (pre : List Sec) : List Sec → Bool
 | [] => false
 | s :: r => pre.any (fun x => secMeet x s) || overl (pre ++ [s]) r
def secCheck (l : List Sec) : Nat :=
 if 16 < l.length then 6 else if firstErr [] l ≠ 0 then firstErr [] l else if overl [] l then 10 else 0

theorem take_snoc' {E : Type} {l : List E} {k : Nat} {s : E} (hk : l[k]? = some s) : l.take (k + 1) = l.take k ++ [s] := by
 rw [List.take_add_one, hk]; rfl
theorem drop_cons' {E : Type} {l : List E} {k : Nat} {s : E} (hk : l[k]? = some s) : l.drop k = s :: l.drop (k + 1) := by
 obtain ⟨h, rfl⟩ := List.getElem?_eq_some_iff.1 hk
 exact List.drop_eq_getElem_cons h
/-- A section in memory: five cells. -/
def secR : Rep Sec where
 size := 5
 pos := by omega
 rel w S cs s := ∃ dv, cs = [.string s.name, .int .u32 s.addr, dv, .bool s.wr, .bool s.ex] ∧ Sl u8R w S dv s.data ∧ s.addr < 4294967296 ∧ s.name.size ≤ 9223372036854775807
 keep hk := fun ⟨dv, h1, h2, h3⟩ => ⟨dv, h1, h2.keep hk, h3⟩
 mono hk := fun ⟨dv, h1, h2, h3⟩ => ⟨dv, h1, h2.mono hk, h3⟩
 len := fun ⟨dv, h1, _⟩ => by rw [h1]; rfl
 one := fun ⟨dv, h1, h2, _⟩ u hu => by
  obtain ⟨A, c, rfl, _⟩ := h2.form
  rw [h1] at hu
  simp at hu
  rcases hu with rfl | rfl | rfl | rfl | rfl <;> rfl

end Go.Deco

namespace Go.Deco
open Go Go.RowKit
set_option linter.unusedSimpArgs false
set_option linter.unusedVariables false

/-- A recovered type; a field is its offset and its type. -/
inductive Ty where
 | mk (kind size count : Int) (elem : List Ty) (fields : List (Int × Ty))
namespace Ty
def kind : Ty → Int | mk k _ _ _ _ => k
def size : Ty → Int | mk _ s _ _ _ => s
def count : Ty → Int | mk _ _ c _ _ => c
def elem : Ty → List Ty | mk _ _ _ e _ => e
def fields : Ty → List (Int × Ty) | mk _ _ _ _ f => f
end Ty
def i64b (n : Int) : Prop := -9223372036854775808 ≤ n ∧ n ≤ 9223372036854775807
/-- A field, over how its type lies in memory. -/
def fdR (R : Rep Ty) : Rep (Int × Ty) where
 size := R.size + 1
 pos := by omega
 rel w S cs f := ∃ r, cs = .int .i64 f.1 :: r ∧ R.rel w S r f.2 ∧ i64b f.1
 keep hk := fun ⟨r, h1, h2, h3⟩ => ⟨r, h1, R.keep hk h2, h3⟩
 mono hk := fun ⟨r, h1, h2, h3⟩ => ⟨r, h1, R.mono hk h2, h3⟩
 len := fun ⟨r, h1, h2, _⟩ => by rw [h1, List.length_cons, R.len h2]
 one := fun ⟨r, h1, h2, _⟩ u hu => by
  rw [h1] at hu
  rcases List.mem_cons.1 hu with rfl | hu
  ·rfl
  ·exact R.one h2 u hu
/-- No type at all. -/
def ty0 : Rep Ty := { size := 5, pos := by omega, rel := fun _ _ _ _ => False, keep := fun _ h => h, mono := fun _ h => h, len := fun h => h.elim, one := fun h => h.elim }
/-- One level above the types R. -/
def tyS (R : Rep Ty) : Rep Ty where
 size := 5
 pos := by omega
 rel w S cs t := ∃ ve vf, cs = [.int .i64 t.kind, .int .i64 t.size, .int .i64 t.count, ve, vf] ∧ Sl R w S ve t.elem ∧ Sl (fdR R) w S vf t.fields ∧ i64b t.kind ∧ i64b t.size ∧ i64b t.count
 keep hk := fun ⟨ve, vf, h1, h2, h3, h4⟩ => ⟨ve, vf, h1, h2.keep hk, h3.keep hk, h4⟩
 mono hk := fun ⟨ve, vf, h1, h2, h3, h4⟩ => ⟨ve, vf, h1, h2.mono hk, h3.mono hk, h4⟩
 len := fun ⟨ve, vf, h1, _⟩ => by rw [h1]; rfl
 one := fun ⟨ve, vf, h1, h2, h3, _⟩ u hu => by
  obtain ⟨A1, c1, rfl, _⟩ := h2.form
  obtain ⟨A2, c2, rfl, _⟩ := h3.form
  rw [h1] at hu
  simp at hu
  rcases hu with rfl | rfl | rfl | rfl | rfl <;> rfl
/-- A type of at most d levels in memory. -/
def tyR : Nat → Rep Ty
 | 0 => ty0
 | d + 1 => tyS (tyR d)
theorem tyR_size (d : Nat) : (tyR d).size = 5 := by cases d <;> rfl
/-- One level more does no harm. -/
theorem Sl.up {E : Type} {R R' : Rep E} (hs : R.size = R'.size) (h : ∀ w S cs e, R.rel w S cs e → R'.rel w S cs e) {w : World} {S : Nat → Prop} {v : Value} {l : List E} (hl : Sl R w S v l) : Sl R' w S v l := by
 obtain ⟨A, c, h0, h1, h2, h3, h4⟩ := hl
 refine ⟨A, c, h0, h1, h2, h3, fun hne => ?_⟩
 obtain ⟨b, off, hA, hS, hc⟩ := h4 hne
 refine ⟨b, off, hA, hS, fun k e he => ?_⟩
 obtain ⟨cs, hr, hg⟩ := hc k e he
 exact ⟨cs, h _ _ _ _ hr, by rw [← hs]; exact hg⟩
theorem tyR_up : ∀ (d : Nat) (w : World) (S : Nat → Prop) (cs : List Value) (t : Ty), (tyR d).rel w S cs t → (tyR (d + 1)).rel w S cs t
 | 0, _, _, _, _, h => h.elim
 | d + 1, w, S, cs, t, ⟨ve, vf, h1, h2, h3, h4⟩ => by
  have hz : (tyR d).size = (tyR (d + 1)).size := by rw [tyR_size, tyR_size]
  refine ⟨ve, vf, h1, Sl.up hz (tyR_up d) h2, Sl.up (R := fdR (tyR d)) (R' := fdR (tyR (d + 1))) (by show (tyR d).size + 1 = (tyR (d + 1)).size + 1; rw [hz]) (fun w S cs f ⟨r, k1, k2, k3⟩ => ⟨r, k1, tyR_up d _ _ _ _ k2, k3⟩) h3, h4⟩
theorem tyR_le {d d' : Nat} (hd : d ≤ d') : ∀ (w : World) (S : Nat → Prop) (cs : List Value) (t : Ty), (tyR d).rel w S cs t → (tyR d').rel w S cs t := by
 induction hd with
 | refl => exact fun _ _ _ _ h => h
 | step _ ih => exact fun w S cs t h => tyR_up _ w S cs t (ih w S cs t h)
end Go.Deco

namespace Go.Deco
open Go Go.RowKit
set_option linter.unusedSimpArgs false
set_option linter.unusedVariables false

namespace Ty
def unk : Ty := mk 0 0 0 [] []
def any : Ty := mk 6 0 0 [] []
def int (s : Int) : Ty := mk 1 s 0 [] []
def uint (s : Int) : Ty := mk 2 s 0 [] []
def ptr (t : Ty) : Ty := mk 3 0 0 [t] []
def arr (t : Ty) (n : Int) : Ty := mk 4 0 n [t] []
def str (l : List (Int × Ty)) : Ty := mk 5 0 0 [] l
end Ty

/-! ### depth -/
mutual
/-- At most n levels. -/
def shalT : Ty → Int → Bool
 | .mk _ _ _ e f, n => decide (1 ≤ n) && (shalE e (n - 1) && shalF f (n - 1))
def shalE : List Ty → Int → Bool
 | [], _ => true
 | t :: l, n => shalT t n && shalE l n
def shalF : List (Int × Ty) → Int → Bool
 | [], _ => true
 | (_, t) :: l, n => shalT t n && shalF l n
end
theorem shalE_all : ∀ (l : List Ty) (n : Int), shalE l n = l.all fun t => shalT t n
 | [], _ => rfl
 | t :: l, n => by rw [shalE, shalE_all l n]; rfl
theorem shalF_all : ∀ (l : List (Int × Ty)) (n : Int), shalF l n = l.all fun f => shalT f.2 n
 | [], _ => rfl
 | (_, t) :: l, n => by rw [shalF, shalF_all l n]; rfl
theorem shalT_eq (t : Ty) (n : Int) : shalT t n = (decide (1 ≤ n) && ((t.elem.all fun x => shalT x (n - 1)) && (t.fields.all fun f => shalT f.2 (n - 1)))) := by
 cases t with
 | mk k s c e f => rw [shalT, shalE_all, shalF_all]; rfl

/-! ### form -/
mutual
def formT : Ty → Bool
 | .mk k s c e f =>
  if k = 0 ∨ k = 6 then decide (s = 0) && decide (c = 0) && e.isEmpty && f.isEmpty
  else if k = 1 ∨ k = 2 then decide (s = 1 ∨ s = 2 ∨ s = 4) && decide (c = 0) && e.isEmpty && f.isEmpty
  else if k = 3 then decide (s = 0) && decide (c = 0) && f.isEmpty && formE e
  else if k = 4 then decide (s = 0) && decide (1 ≤ c) && decide (c ≤ 65536) && f.isEmpty && formE e
  else if k = 5 then decide (s = 0) && decide (c = 0) && e.isEmpty && formF (-1) f
  else false
def formE : List Ty → Bool
 | [] => false
 | t :: l => formT t && l.isEmpty
def formF : Int → List (Int × Ty) → Bool
 | _, [] => true
 | p, (o, t) :: l => decide (p < o) && decide (o < 65536) && formT t && formF o l
end
theorem formE_one {l : List Ty} (h : formE l = true) : ∃ t, l = [t] ∧ formT t = true := by
 match l, h with
 | [t], h => exact ⟨t, rfl, by simpa [formE] using h⟩
 | t :: u :: l, h => simp [formE] at h
theorem formF_all : ∀ {l : List (Int × Ty)} {p : Int}, formF p l = true → ∀ f ∈ l, p < f.1 ∧ f.1 < 65536 ∧ formT f.2 = true
 | [], _, _, f, hf => by cases hf
 | (o, t) :: l, p, h, f, hf => by
  simp only [formF, Bool.and_eq_true, decide_eq_true_eq] at h
  rcases List.mem_cons.1 hf with rfl | hf
  ·exact ⟨h.1.1.1, h.1.1.2, h.1.2⟩
  ·have := formF_all h.2 f hf
   exact ⟨by omega, this.2⟩
/-- Offsets ascend. -/
def AscF (l : List (Int × Ty)) : Prop := l.Pairwise fun a b => a.1 < b.1
/-- What a formed type looks like. -/
theorem formT_cases {t : Ty} (h : formT t = true) :
  (t = Ty.unk ∨ t = Ty.any) ∨ (∃ s, (s = 1 ∨ s = 2 ∨ s = 4) ∧ (t = Ty.int s ∨ t = Ty.uint s)) ∨ (∃ x, t = Ty.ptr x ∧ formT x = true) ∨
   (∃ x n, t = Ty.arr x n ∧ 1 ≤ n ∧ n ≤ 65536 ∧ formT x = true) ∨ (∃ l, t = Ty.str l ∧ formF (-1) l = true) := by
 cases t with
 | mk k s c e f =>
  rw [formT] at h
  split at h
  ·rename_i hk
   simp only [Bool.and_eq_true, decide_eq_true_eq, List.isEmpty_iff] at h
   obtain ⟨⟨⟨rfl, rfl⟩, rfl⟩, rfl⟩ := h
   rcases hk with rfl | rfl
   ·exact .inl (.inl rfl)
   ·exact .inl (.inr rfl)
  ·split at h
   ·rename_i hk
    simp only [Bool.and_eq_true, decide_eq_true_eq, List.isEmpty_iff] at h
    obtain ⟨⟨⟨hs, rfl⟩, rfl⟩, rfl⟩ := h
    refine .inr (.inl ⟨s, hs, ?_⟩)
    rcases hk with rfl | rfl
    ·exact .inl rfl
    ·exact .inr rfl
   ·split at h
    ·rename_i hk
     simp only [Bool.and_eq_true, decide_eq_true_eq, List.isEmpty_iff] at h
     obtain ⟨⟨⟨rfl, rfl⟩, rfl⟩, he⟩ := h
     obtain ⟨x, rfl, hx⟩ := formE_one he
     subst hk
     exact .inr (.inr (.inl ⟨x, rfl, hx⟩))
    ·split at h
     ·rename_i hk
      simp only [Bool.and_eq_true, decide_eq_true_eq, List.isEmpty_iff] at h
      obtain ⟨⟨⟨⟨rfl, h1⟩, h2⟩, rfl⟩, he⟩ := h
      obtain ⟨x, rfl, hx⟩ := formE_one he
      subst hk
      exact .inr (.inr (.inr (.inl ⟨x, c, rfl, h1, h2, hx⟩)))
     ·split at h
      ·rename_i hk
       simp only [Bool.and_eq_true, decide_eq_true_eq, List.isEmpty_iff] at h
       obtain ⟨⟨⟨rfl, rfl⟩, rfl⟩, he⟩ := h
       subst hk
       exact .inr (.inr (.inr (.inr ⟨f, rfl, he⟩)))
      ·cases h

/-! ### size -/
mutual
def szT : Ty → Int
 | .mk k s c e f => min (if k = 1 ∨ k = 2 then s else if k = 3 then 4 else if k = 4 then c * szE e else if k = 5 then szF 0 f else 0) 65537
def szE : List Ty → Int
 | [] => 0
 | t :: _ => szT t
def szF : Int → List (Int × Ty) → Int
 | n, [] => n
 | n, (o, t) :: l => szF (max n (o + szT t)) l
end
theorem szT_le (t : Ty) : szT t ≤ 65537 := by
 cases t with
 | mk k s c e f => rw [szT]; omega
theorem szF_step : ∀ (l : List (Int × Ty)) (n : Int), szF n l = l.foldl (fun n f => max n (f.1 + szT f.2)) n
 | [], _ => rfl
 | (o, t) :: l, n => by rw [szF, szF_step l]; rfl
theorem szF_snoc (l : List (Int × Ty)) (n : Int) (f : Int × Ty) : szF n (l ++ [f]) = max (szF n l) (f.1 + szT f.2) := by
 rw [szF_step, szF_step, List.foldl_append]; rfl
theorem szF_ge : ∀ (l : List (Int × Ty)) (n : Int), n ≤ szF n l
 | [], _ => by rw [szF]; omega
 | (o, t) :: l, n => by rw [szF]; have := szF_ge l (max n (o + szT t)); omega
theorem szF_bound : ∀ (l : List (Int × Ty)) (n b : Int), n ≤ b → (∀ f ∈ l, f.1 + szT f.2 ≤ b) → szF n l ≤ b
 | [], _, _, h, _ => h
 | (o, t) :: l, n, b, h, hl => by
  rw [szF]
  refine szF_bound l _ b ?_ fun f hf => hl f (List.mem_cons_of_mem _ hf)
  have := hl (o, t) (List.mem_cons_self ..)
  simp at this
  omega
mutual
theorem szT_nonneg : ∀ (t : Ty), formT t = true → 0 ≤ szT t
 | .mk k s c e f, h => by
  rw [formT] at h
  rw [szT]
  split at h
  ·rename_i hk
   rcases hk with rfl | rfl <;> (show (0:Int) ≤ min 0 65537; decide)
  ·split at h
   ·rename_i hk
    rw [if_pos hk]
    simp only [Bool.and_eq_true, decide_eq_true_eq] at h
    omega
   ·rename_i hk
    rw [if_neg hk]
    split at h
    ·rename_i hk
     rw [if_pos hk]; omega
    ·rename_i hk
     rw [if_neg hk]
     split at h
     ·rename_i hk
      rw [if_pos hk]
      simp only [Bool.and_eq_true, decide_eq_true_eq] at h
      have h1 := szE_nonneg e h.2
      have h2 := Int.mul_nonneg (show 0 ≤ c by omega) h1
      omega
     ·rename_i hk
      rw [if_neg hk]
      split at h
      ·rename_i hk
       rw [if_pos hk]
       have := szF_ge f 0
       omega
      ·cases h
theorem szE_nonneg : ∀ (l : List Ty), formE l = true → 0 ≤ szE l
 | [], h => by rw [szE]; omega
 | t :: l, h => by
  rw [szE]
  rw [formE, Bool.and_eq_true] at h
  exact szT_nonneg t h.1
end

theorem sz_int' (s : Int) (h : s = 1 ∨ s = 2 ∨ s = 4) : szT (.mk 1 s 0 [] []) = s := by rcases h with rfl | rfl | rfl <;> decide
theorem sz_uint' (s : Int) (h : s = 1 ∨ s = 2 ∨ s = 4) : szT (.mk 2 s 0 [] []) = s := by rcases h with rfl | rfl | rfl <;> decide

/-! ### limits -/
mutual
def wiT : Ty → Bool
 | .mk k s c e f => decide (f.length ≤ 64) && decide (szT (.mk k s c e f) ≤ 65536) && wiF f && wiE e
def wiE : List Ty → Bool
 | [] => true
 | t :: l => wiT t && wiE l
def wiF : List (Int × Ty) → Bool
 | [] => true
 | (_, t) :: l => wiT t && wiF l
end
theorem wiE_all : ∀ (l : List Ty), wiE l = l.all wiT
 | [] => rfl
 | t :: l => by rw [wiE, wiE_all l]; rfl
theorem wiF_all : ∀ (l : List (Int × Ty)), wiF l = l.all fun f => wiT f.2
 | [] => rfl
 | (_, t) :: l => by rw [wiF, wiF_all l]; rfl
theorem wiT_eq (t : Ty) : wiT t = (decide (t.fields.length ≤ 64) && decide (szT t ≤ 65536) && (t.fields.all fun f => wiT f.2) && t.elem.all wiT) := by
 cases t with
 | mk k s c e f => rw [wiT, wiE_all, wiF_all]; rfl
/-- The first error of a type. -/
def chkT (t : Ty) : Nat := if shalT t 64 = false then 20 else if formT t = false then 2 else if wiT t = false then 6 else 0
theorem chkT_zero {t : Ty} : chkT t = 0 ↔ shalT t 64 = true ∧ formT t = true ∧ wiT t = true := by
 unfold chkT
 cases shalT t 64 <;> cases formT t <;> cases wiT t <;> simp
def goodT (t : Ty) : Bool := decide (chkT t = 0)
theorem goodT_iff {t : Ty} : goodT t = true ↔ shalT t 64 = true ∧ formT t = true ∧ wiT t = true := by
 unfold goodT; rw [decide_eq_true_iff, chkT_zero]
def sizeT (t : Ty) : Int := if goodT t then szT t else 0

/-! ### no list is very long -/
mutual
def bnT : Ty → Bool
 | .mk _ _ _ e f => decide (e.length ≤ 1000000) && decide (f.length ≤ 1000000) && bnE e && bnF f
def bnE : List Ty → Bool
 | [] => true
 | t :: l => bnT t && bnE l
def bnF : List (Int × Ty) → Bool
 | [] => true
 | (_, t) :: l => bnT t && bnF l
end
theorem bnE_mem : ∀ {l : List Ty}, bnE l = true → ∀ t ∈ l, bnT t = true
 | t :: l, h, x, hx => by
  rw [bnE, Bool.and_eq_true] at h
  rcases List.mem_cons.1 hx with rfl | hx
  ·exact h.1
  ·exact bnE_mem h.2 x hx
theorem bnF_mem : ∀ {l : List (Int × Ty)}, bnF l = true → ∀ f ∈ l, bnT f.2 = true
 | (_, t) :: l, h, x, hx => by
  rw [bnF, Bool.and_eq_true] at h
  rcases List.mem_cons.1 hx with rfl | hx
  ·exact h.1
  ·exact bnF_mem h.2 x hx
theorem bnT_parts {t : Ty} (h : bnT t = true) : t.elem.length ≤ 1000000 ∧ t.fields.length ≤ 1000000 ∧ (∀ x ∈ t.elem, bnT x = true) ∧ ∀ f ∈ t.fields, bnT f.2 = true := by
 obtain ⟨k, s, c, e, f⟩ := t
 rw [bnT] at h
 simp only [Bool.and_eq_true, decide_eq_true_eq] at h
 exact ⟨h.1.1.1, h.1.1.2, bnE_mem h.1.2, bnF_mem h.2⟩
mutual
theorem bn_good : ∀ (t : Ty), formT t = true → wiT t = true → bnT t = true
 | .mk k s c e f, h, hw => by
  rw [wiT] at hw
  simp only [Bool.and_eq_true, decide_eq_true_eq] at hw
  have hl : e.length ≤ 1 ∧ (e = [] ∨ formE e = true) ∧ (f = [] ∨ ∃ p, formF p f = true) := by
   rcases formT_cases h with (h | h) | ⟨s, hs, (h | h)⟩ | ⟨x, h, hx⟩ | ⟨x, m, h, hm1, hm2, hx⟩ | ⟨l, h, hl⟩
   all_goals (simp only [Ty.unk, Ty.any, Ty.int, Ty.uint, Ty.ptr, Ty.arr, Ty.str] at h; injection h with h1 h2 h3 h4 h5; subst h4 h5)
   ·exact ⟨by simp, .inl rfl, .inl rfl⟩
   ·exact ⟨by simp, .inl rfl, .inl rfl⟩
   ·exact ⟨by simp, .inl rfl, .inl rfl⟩
   ·exact ⟨by simp, .inl rfl, .inl rfl⟩
   ·exact ⟨by simp, .inr (by simp [formE, hx]), .inl rfl⟩
   ·exact ⟨by simp, .inr (by simp [formE, hx]), .inl rfl⟩
   ·exact ⟨by simp, .inl rfl, .inr ⟨-1, hl⟩⟩
  rw [bnT]
  have h1 : bnE e = true := by
   rcases hl.2.1 with h | h
   ·rw [h]; rfl
   ·exact bn_goodE e h hw.2
  have h2 : bnF f = true := by
   rcases hl.2.2 with h | ⟨p, h⟩
   ·rw [h]; rfl
   ·exact bn_goodF f p h hw.1.2
  rw [h1, h2]
  have := hw.1.1.1
  have := hl.1
  simp
  omega
theorem bn_goodE : ∀ (l : List Ty), formE l = true → wiE l = true → bnE l = true
 | [], _, _ => rfl
 | t :: l, h, hw => by
  rw [formE, Bool.and_eq_true] at h
  rw [wiE, Bool.and_eq_true] at hw
  have hl : l = [] := by simpa using h.2
  rw [bnE, bn_good t h.1 hw.1, hl]
  rfl
theorem bn_goodF : ∀ (l : List (Int × Ty)) (p : Int), formF p l = true → wiF l = true → bnF l = true
 | [], _, _, _ => rfl
 | (o, t) :: l, p, h, hw => by
  rw [formF] at h
  simp only [Bool.and_eq_true, decide_eq_true_eq] at h
  rw [wiF, Bool.and_eq_true] at hw
  rw [bnF, bn_good t h.1.2 hw.1, bn_goodF l o h.2 hw.2]
  rfl
end
theorem bn_of_good {t : Ty} (h : goodT t = true) : bnT t = true := bn_good t (goodT_iff.1 h).2.1 (goodT_iff.1 h).2.2

/-! ### equality -/
mutual
def sameT : Ty → Ty → Bool
 | .mk k s c e f, .mk k' s' c' e' f' => decide (k = k') && decide (s = s') && decide (c = c') && sameE e e' && sameF f f'
def sameE : List Ty → List Ty → Bool
 | [], [] => true
 | t :: l, t' :: l' => sameT t t' && sameE l l'
 | _, _ => false
def sameF : List (Int × Ty) → List (Int × Ty) → Bool
 | [], [] => true
 | (o, t) :: l, (o', t') :: l' => decide (o = o') && sameT t t' && sameF l l'
 | _, _ => false
end
mutual
theorem sameT_iff : ∀ (a b : Ty), sameT a b = true ↔ a = b
 | .mk k s c e f, .mk k' s' c' e' f' => by
  rw [sameT]
  simp only [Bool.and_eq_true, decide_eq_true_eq, sameE_iff e e', sameF_iff f f', Ty.mk.injEq, and_assoc]
theorem sameE_iff : ∀ (a b : List Ty), sameE a b = true ↔ a = b
 | [], [] => by simp [sameE]
 | t :: l, t' :: l' => by rw [sameE, Bool.and_eq_true, sameT_iff t t', sameE_iff l l', List.cons.injEq]
 | [], _ :: _ => by simp [sameE]
 | _ :: _, [] => by simp [sameE]
theorem sameF_iff : ∀ (a b : List (Int × Ty)), sameF a b = true ↔ a = b
 | [], [] => by simp [sameF]
 | (o, t) :: l, (o', t') :: l' => by rw [sameF, Bool.and_eq_true, Bool.and_eq_true, decide_eq_true_eq, sameT_iff t t', sameF_iff l l', List.cons.injEq, Prod.mk.injEq]
 | [], _ :: _ => by simp [sameF]
 | _ :: _, [] => by simp [sameF]
end
instance : DecidableEq Ty := fun a b => decidable_of_iff _ (sameT_iff a b)
theorem sameT_refl (a : Ty) : sameT a a = true := (sameT_iff a a).2 rfl

/-! ### the type of an access -/
mutual
def faT : Ty → Int → Int → Option Ty
 | .mk k s c e f, off, wd =>
  if k = 0 ∨ k = 6 then (if 0 ≤ off then some (.mk k s c e f) else none)
  else if k = 1 ∨ k = 2 ∨ k = 3 then (if off = 0 ∧ wd = szT (.mk k s c e f) then some (.mk k s c e f) else none)
  else if k = 4 then (if off < 0 ∨ szT (.mk k s c e f) ≤ off then none else faE e off wd)
  else if off < 0 then none else faF f off wd
def faE : List Ty → Int → Int → Option Ty
 | [], _, _ => none
 | t :: _, off, wd => faT t (off % szT t) wd
def faF : List (Int × Ty) → Int → Int → Option Ty
 | [], _, _ => none
 | (o, t) :: l, off, wd => match faF l off wd with
  | some x => some x
  | none => faT t (off - o) wd
end
theorem faT_neg : ∀ (t : Ty) {off wd : Int}, off < 0 → faT t off wd = none
 | .mk k s c e f, off, wd, h => by
  rw [faT]
  split
  ·rw [if_neg (by omega)]
  ·split
   ·rw [if_neg (by omega)]
   ·split
    ·rw [if_pos (by omega)]
    ·first
      | rfl
      | rw [if_pos h]
def fieldT (t : Ty) (off wd : Int) : Option Ty := if goodT t = true ∧ (wd = 1 ∨ wd = 2 ∨ wd = 4) then faT t off wd else none
end Go.Deco

namespace Go.Deco
open Go Go.RowKit
set_option linter.unusedSimpArgs false
set_option linter.unusedVariables false
section
variable {α : Type}

/-- What is asked of 'x is less than y'. -/
structure Weak (lt : α → α → Bool) : Prop where
 asym : ∀ x y, lt x y = true → lt y x = false
 trans : ∀ x y z, lt y x = false → lt z y = false → lt z x = false
namespace Weak
variable {lt : α → α → Bool}
theorem irr (W : Weak lt) (x : α) : lt x x = false := by
 cases h : lt x x with
 | false => rfl
 | true => rw [← W.asym x x h, h]
theorem lt_le (W : Weak lt) {x y z : α} (h : lt x y = true) (k : lt z y = false) : lt x z = true := by
 cases e : lt x z with
 | true => rfl
 | false => rw [W.trans y z x k e] at h; cases h
theorem le_lt (W : Weak lt) {x y z : α} (h : lt y x = false) (k : lt y z = true) : lt x z = true := by
 cases e : lt x z with
 | true => rfl
 | false => rw [W.trans z x y e h] at k; cases k
end Weak
/-- Neither is less. -/
def eqvB (lt : α → α → Bool) (p x : α) : Bool := !lt p x && !lt x p
theorem eqvB_iff {lt : α → α → Bool} {p x : α} : eqvB lt p x = true ↔ lt p x = false ∧ lt x p = false := by
 unfold eqvB
 cases lt p x <;> cases lt x p <;> simp
def Srt (lt : α → α → Bool) (l : List α) : Prop := l.Pairwise fun x y => lt y x = false
/-- Equal elements are the same ones, in the same order. -/
def Cls (lt : α → α → Bool) (l m : List α) : Prop := ∀ p, m.filter (eqvB lt p) = l.filter (eqvB lt p)
theorem Cls.refl (lt : α → α → Bool) (l : List α) : Cls lt l l := fun _ => rfl
theorem Cls.trans {lt : α → α → Bool} {a b c : List α} (h : Cls lt a b) (k : Cls lt b c) : Cls lt a c := fun p => (k p).trans (h p)
theorem Cls.symm {lt : α → α → Bool} {a b : List α} (h : Cls lt a b) : Cls lt b a := fun p => (h p).symm
theorem Cls.app {lt : α → α → Bool} {a b c d : List α} (h : Cls lt a b) (k : Cls lt c d) : Cls lt (a ++ c) (b ++ d) := fun p => by rw [List.filter_append, List.filter_append, h p, k p]
theorem Cls.mem {lt : α → α → Bool} (W : Weak lt) {l m : List α} (h : Cls lt l m) (x : α) : x ∈ m ↔ x ∈ l := by
 have hx : eqvB lt x x = true := eqvB_iff.2 ⟨W.irr x, W.irr x⟩
 constructor
 ·intro hm
  have : x ∈ m.filter (eqvB lt x) := List.mem_filter.2 ⟨hm, hx⟩
  rw [h x] at this
  exact (List.mem_filter.1 this).1
 ·intro hl
  have : x ∈ l.filter (eqvB lt x) := List.mem_filter.2 ⟨hl, hx⟩
  rw [← h x] at this
  exact (List.mem_filter.1 this).1
theorem srt_uniq {lt : α → α → Bool} (W : Weak lt) : ∀ {l m : List α}, Srt lt l → Srt lt m → Cls lt l m → l = m
 | [], [], _, _, _ => rfl
 | [], y :: t, _, _, h => by
  have := (h.mem W y).1 (List.mem_cons_self ..)
  cases this
 | x :: l, [], _, _, h => by
  have := (h.mem W x).2 (List.mem_cons_self ..)
  cases this
 | x :: l, y :: m, hl, hm, h => by
  have hl1 := (List.pairwise_cons.1 hl)
  have hm1 := (List.pairwise_cons.1 hm)
  have h1 : lt x y = false := by
   rcases List.mem_cons.1 ((h.mem W x).2 (List.mem_cons_self ..)) with e | e
   ·rw [e]; exact W.irr y
   ·exact hm1.1 x e
  have h2 : lt y x = false := by
   rcases List.mem_cons.1 ((h.mem W y).1 (List.mem_cons_self ..)) with e | e
   ·rw [e]; exact W.irr x
   ·exact hl1.1 y e
  have hx : eqvB lt x x = true := eqvB_iff.2 ⟨W.irr x, W.irr x⟩
  have hy : eqvB lt x y = true := eqvB_iff.2 ⟨h1, h2⟩
  have h3 := h x
  rw [List.filter_cons_of_pos hx, List.filter_cons_of_pos hy] at h3
  have h4 : y = x := (List.cons.inj h3).1
  subst h4
  have h5 : Cls lt l m := fun p => by
   have h6 := h p
   cases e : eqvB lt p y with
   | true =>
    rw [List.filter_cons_of_pos e, List.filter_cons_of_pos e] at h6
    exact (List.cons.inj h6).2
   | false =>
    rw [List.filter_cons_of_neg (by rw [e]; exact Bool.noConfusion), List.filter_cons_of_neg (by rw [e]; exact Bool.noConfusion)] at h6
    exact h6
  rw [srt_uniq W hl1.2 hm1.2 h5]

/-! ### insertion behind what is not greater -/
def insR (lt : α → α → Bool) (x : α) : List α → List α
 | [] => [x]
 | o :: t => if lt x o then x :: o :: t else o :: insR lt x t
theorem insR_at {lt : α → α → Bool} : ∀ {O : List α} {x : α} {k : Nat}, (∀ j, j < k → ∀ y, O[j]? = some y → lt x y = false) → k ≤ O.length → (∀ y, O[k]? = some y → lt x y = true) → insR lt x O = O.take k ++ x :: O.drop k
 | [], x, k, _, hk, _ => by
  have : k = 0 := by simpa using hk
  subst this
  rfl
 | o :: t, x, 0, _, _, hg => by
  have := hg o rfl
  simp [insR, this]
 | o :: t, x, k + 1, hl, hk, hg => by
  have h0 := hl 0 (by omega) o rfl
  have ih := insR_at (O := t) (x := x) (k := k) (fun j hj y hy => hl (j + 1) (by omega) y (by simpa using hy)) (by simpa using hk) (fun y hy => hg y (by simpa using hy))
  rw [insR, if_neg (by rw [h0]; exact Bool.noConfusion), ih]
  rfl
theorem insR_mem {lt : α → α → Bool} : ∀ {O : List α} {x y : α}, y ∈ insR lt x O ↔ y = x ∨ y ∈ O
 | [], x, y => by simp [insR]
 | o :: t, x, y => by
  rw [insR]
  split
  ·simp
  ·rw [List.mem_cons, insR_mem, List.mem_cons]
   constructor
   ·rintro (h | h | h) <;> simp [h]
   ·rintro (h | h | h) <;> simp [h]
theorem insR_srt {lt : α → α → Bool} (W : Weak lt) : ∀ {O : List α} {x : α}, Srt lt O → Srt lt (insR lt x O)
 | [], x, _ => List.pairwise_singleton _ _
 | o :: t, x, h => by
  have h1 := List.pairwise_cons.1 h
  rw [insR]
  split
  ·next hx =>
   refine List.pairwise_cons.2 ⟨fun y hy => ?_, h⟩
   rcases List.mem_cons.1 hy with rfl | hy
   ·exact W.asym _ _ hx
   ·exact W.asym _ _ (W.lt_le hx (h1.1 y hy))
  ·next hx =>
   refine List.pairwise_cons.2 ⟨fun y hy => ?_, insR_srt W h1.2⟩
   rcases insR_mem.1 hy with rfl | hy
   ·simpa using hx
   ·exact h1.1 y hy
theorem no_eqv {lt : α → α → Bool} (W : Weak lt) {p x : α} {l : List α} (hp : eqvB lt p x = true) (h : ∀ y ∈ l, lt x y = true) : l.filter (eqvB lt p) = [] := by
 rw [List.filter_eq_nil_iff]
 intro y hy he
 have h1 := (eqvB_iff.1 he).1
 have h2 := (eqvB_iff.1 hp).2
 have h3 := W.lt_le (h y hy) h1
 rw [h2] at h3
 cases h3
theorem insR_cls {lt : α → α → Bool} (W : Weak lt) : ∀ {O : List α} {x : α}, Srt lt O → Cls lt (O ++ [x]) (insR lt x O)
 | [], x, _ => Cls.refl _ _
 | o :: t, x, h => by
  have h1 := List.pairwise_cons.1 h
  rw [insR]
  split
  ·next hx =>
   intro p
   rw [List.filter_append]
   cases e : eqvB lt p x with
   | true =>
    have h2 : (o :: t).filter (eqvB lt p) = [] := no_eqv W e fun y hy => by
     rcases List.mem_cons.1 hy with rfl | hy
     ·exact hx
     ·exact W.lt_le hx (h1.1 y hy)
    rw [List.filter_cons_of_pos e, h2, List.filter_cons_of_pos e]
    rfl
   | false =>
    have e2 : [x].filter (eqvB lt p) = [] := by rw [List.filter_cons_of_neg (by rw [e]; exact Bool.noConfusion)]; rfl
    rw [e2, List.append_nil, List.filter_cons_of_neg (a := x) (by rw [e]; exact Bool.noConfusion)]
  ·intro p
   have ih := insR_cls W (x := x) h1.2 p
   rw [List.cons_append, List.filter_cons, List.filter_cons, ih]
/-- The list sorted, equal elements in their order. -/
def stab (lt : α → α → Bool) (l : List α) : List α := l.foldl (fun O x => insR lt x O) []
theorem stab_snoc (lt : α → α → Bool) (l : List α) (x : α) : stab lt (l ++ [x]) = insR lt x (stab lt l) := by simp [stab]
theorem snoc_ind {P : List α → Prop} (h0 : P []) (hs : ∀ l x, P l → P (l ++ [x])) (l : List α) : P l := by
 have key : ∀ n (l : List α), l.length = n → P l := by
  intro n
  induction n with
  | zero => intro l hl; rw [List.length_eq_zero_iff.1 hl]; exact h0
  | succ n ih =>
   intro l hl
   have hne : l ≠ [] := fun e => by rw [e] at hl; cases hl
   rw [← List.dropLast_concat_getLast hne]
   exact hs _ _ (ih _ (by rw [List.length_dropLast, hl]; rfl))
 exact key l.length l rfl
theorem stab_ok {lt : α → α → Bool} (W : Weak lt) (l : List α) : Srt lt (stab lt l) ∧ Cls lt l (stab lt l) := by
 refine snoc_ind (P := fun l => Srt lt (stab lt l) ∧ Cls lt l (stab lt l)) ⟨List.Pairwise.nil, Cls.refl _ _⟩ (fun l x h => ?_) l
 rw [stab_snoc]
 exact ⟨insR_srt W h.1, (h.2.app (Cls.refl lt [x])).trans (insR_cls W h.1)⟩
theorem insR_len (lt : α → α → Bool) (x : α) : ∀ O : List α, (insR lt x O).length = O.length + 1
 | [] => rfl
 | o :: t => by
  rw [insR]
  split
  ·rfl
  ·rw [List.length_cons, insR_len lt x t, List.length_cons]
theorem stab_len (lt : α → α → Bool) (l : List α) : (stab lt l).length = l.length := by
 refine snoc_ind (P := fun l => (stab lt l).length = l.length) rfl (fun l x h => ?_) l
 rw [stab_snoc, insR_len, h, List.length_append]
 rfl

/-! ### merging -/
def mrg (lt : α → α → Bool) : List α → List α → List α
 | [], R => R
 | l :: L, [] => l :: L
 | l :: L, r :: R => if lt r l then r :: mrg lt (l :: L) R else l :: mrg lt L (r :: R)
termination_by L R => L.length + R.length
theorem mrg_nil {lt : α → α → Bool} (R : List α) : mrg lt [] R = R := by rw [mrg]
theorem mrg_nil' {lt : α → α → Bool} (L : List α) : mrg lt L [] = L := by cases L <;> rw [mrg]
theorem mrg_cons {lt : α → α → Bool} (l r : α) (L R : List α) : mrg lt (l :: L) (r :: R) = if lt r l then r :: mrg lt (l :: L) R else l :: mrg lt L (r :: R) := by rw [mrg]
theorem mrg_left {lt : α → α → Bool} {L R : List α} : ∀ {M : List α}, (∀ r ∈ M, ∀ l ∈ L, lt r l = true) → mrg lt L (M ++ R) = M ++ mrg lt L R
 | [], _ => rfl
 | r :: M, h => by
  cases L with
  | nil => rw [mrg_nil, mrg_nil]
  | cons l L =>
   rw [List.cons_append, mrg_cons, if_pos (h r (List.mem_cons_self ..) l (List.mem_cons_self ..)), mrg_left fun r hr => h r (List.mem_cons_of_mem _ hr)]
   rfl
theorem mrg_right {lt : α → α → Bool} {L R : List α} : ∀ {M : List α}, (∀ l ∈ M, ∀ r ∈ R, lt r l = false) → mrg lt (M ++ L) R = M ++ mrg lt L R
 | [], _ => rfl
 | l :: M, h => by
  cases R with
  | nil => rw [mrg_nil', mrg_nil']
  | cons r R =>
   rw [List.cons_append, mrg_cons, if_neg (by rw [h l (List.mem_cons_self ..) r (List.mem_cons_self ..)]; exact Bool.noConfusion), mrg_right fun l hl => h l (List.mem_cons_of_mem _ hl)]
   rfl
theorem mrg_split {lt : α → α → Bool} {L2 R2 : List α} : ∀ (n : Nat) {L1 R1 : List α}, L1.length + R1.length ≤ n → (∀ r ∈ R1, ∀ l ∈ L2, lt r l = true) → (∀ l ∈ L1, ∀ r ∈ R2, lt r l = false) → mrg lt (L1 ++ L2) (R1 ++ R2) = mrg lt L1 R1 ++ mrg lt L2 R2
 | n, [], R1, _, h, _ => by rw [List.nil_append, mrg_left h, mrg_nil]
 | n, l :: L1, [], _, _, k => by rw [List.nil_append, mrg_right k, mrg_nil']
 | 0, l :: L1, r :: R1, hn, _, _ => by simp at hn
 | n + 1, l :: L1, r :: R1, hn, h, k => by
  rw [List.cons_append, List.cons_append, mrg_cons, mrg_cons]
  split
  ·have := mrg_split n (L1 := l :: L1) (R1 := R1) (by simp at hn ⊢; omega) (fun r hr => h r (List.mem_cons_of_mem _ hr)) k
   rw [List.cons_append] at this
   rw [this]
   rfl
  ·have := mrg_split n (L1 := L1) (R1 := r :: R1) (by simp at hn ⊢; omega) h (fun l hl => k l (List.mem_cons_of_mem _ hl))
   rw [List.cons_append] at this
   rw [this]
   rfl
theorem mrg_mem {lt : α → α → Bool} : ∀ (n : Nat) {L R : List α} {x : α}, L.length + R.length ≤ n → (x ∈ mrg lt L R ↔ x ∈ L ∨ x ∈ R)
 | n, [], R, x, _ => by rw [mrg_nil]; simp
 | n, l :: L, [], x, _ => by rw [mrg_nil']; simp
 | 0, l :: L, r :: R, x, hn => by simp at hn
 | n + 1, l :: L, r :: R, x, hn => by
  rw [mrg_cons]
  split
  ·rw [List.mem_cons, mrg_mem n (by simp at hn ⊢; omega), List.mem_cons (l := R)]
   constructor
   ·rintro (h | h | h) <;> simp [h]
   ·rintro (h | h | h) <;> simp [h]
  ·rw [List.mem_cons, mrg_mem n (by simp at hn ⊢; omega), List.mem_cons (l := L)]
   constructor
   ·rintro (h | h | h) <;> simp [h]
   ·rintro ((h | h) | h) <;> simp [h]
theorem mrg_srt {lt : α → α → Bool} (W : Weak lt) : ∀ (n : Nat) {L R : List α}, L.length + R.length ≤ n → Srt lt L → Srt lt R → Srt lt (mrg lt L R)
 | n, [], R, _, _, h => by rw [mrg_nil]; exact h
 | n, l :: L, [], _, h, _ => by rw [mrg_nil']; exact h
 | 0, l :: L, r :: R, hn, _, _ => by simp at hn
 | n + 1, l :: L, r :: R, hn, hl, hr => by
  have hl1 := List.pairwise_cons.1 hl
  have hr1 := List.pairwise_cons.1 hr
  rw [mrg_cons]
  split
  ·next hx =>
   refine List.pairwise_cons.2 ⟨fun y hy => ?_, mrg_srt W n (by simp at hn ⊢; omega) hl hr1.2⟩
   rcases (mrg_mem _ (Nat.le_refl _)).1 hy with hy | hy
   ·rcases List.mem_cons.1 hy with rfl | hy
    ·exact W.asym _ _ hx
    ·exact W.asym _ _ (W.lt_le hx (hl1.1 y hy))
   ·exact hr1.1 y hy
  ·next hx =>
   have hx : lt r l = false := by simpa using hx
   refine List.pairwise_cons.2 ⟨fun y hy => ?_, mrg_srt W n (by simp at hn ⊢; omega) hl1.2 hr⟩
   rcases (mrg_mem _ (Nat.le_refl _)).1 hy with hy | hy
   ·exact hl1.1 y hy
   ·rcases List.mem_cons.1 hy with rfl | hy
    ·exact hx
    ·exact W.trans _ _ _ hx (hr1.1 y hy)
theorem mrg_cls {lt : α → α → Bool} (W : Weak lt) : ∀ (n : Nat) {L R : List α}, L.length + R.length ≤ n → Srt lt L → Srt lt R → Cls lt (L ++ R) (mrg lt L R)
 | n, [], R, _, _, _ => by rw [mrg_nil]; exact Cls.refl _ _
 | n, l :: L, [], _, _, _ => by rw [mrg_nil', List.append_nil]; exact Cls.refl _ _
 | 0, l :: L, r :: R, hn, _, _ => by simp at hn
 | n + 1, l :: L, r :: R, hn, hl, hr => by
  have hl1 := List.pairwise_cons.1 hl
  have hr1 := List.pairwise_cons.1 hr
  rw [mrg_cons]
  split
  ·next hx =>
   intro p
   have ih := mrg_cls W n (L := l :: L) (R := R) (by simp at hn ⊢; omega) hl hr1.2 p
   rw [List.filter_cons, ih, List.filter_append, List.filter_append]
   cases e : eqvB lt p r with
   | true =>
    have h2 : (l :: L).filter (eqvB lt p) = [] := no_eqv W e fun y hy => by
     rcases List.mem_cons.1 hy with rfl | hy
     ·exact hx
     ·exact W.lt_le hx (hl1.1 y hy)
    rw [h2, List.filter_cons_of_pos e]
    rfl
   | false =>
    rw [List.filter_cons_of_neg (l := R) (by rw [e]; exact Bool.noConfusion)]
    rfl
  ·intro p
   have ih := mrg_cls W n (L := L) (R := r :: R) (by simp at hn ⊢; omega) hl1.2 hr p
   rw [List.cons_append, List.filter_cons, List.filter_cons, ih]
theorem mrg_len {lt : α → α → Bool} : ∀ (n : Nat) {L R : List α}, L.length + R.length ≤ n → (mrg lt L R).length = L.length + R.length
 | n, [], R, _ => by rw [mrg_nil]; simp
 | n, l :: L, [], _ => by rw [mrg_nil']; simp
 | 0, l :: L, r :: R, hn => by simp at hn
 | n + 1, l :: L, r :: R, hn => by
  rw [mrg_cons]
  split
  ·rw [List.length_cons, mrg_len n (by simp at hn ⊢; omega)]; simp; omega
  ·rw [List.length_cons, mrg_len n (by simp at hn ⊢; omega)]; simp; omega
theorem stab_app {lt : α → α → Bool} (W : Weak lt) (X Y : List α) : stab lt (X ++ Y) = mrg lt (stab lt X) (stab lt Y) := by
 obtain ⟨a1, a2⟩ := stab_ok W (X ++ Y)
 obtain ⟨b1, b2⟩ := stab_ok W X
 obtain ⟨c1, c2⟩ := stab_ok W Y
 exact srt_uniq W a1 (mrg_srt W _ (Nat.le_refl _) b1 c1) (a2.symm.trans ((b2.app c2).trans (mrg_cls W _ (Nat.le_refl _) b1 c1)))
/-! ### two parts exchanged -/
/-- The first i of two equally long parts, at a and b, have been exchanged. -/
def Swp (D : List α) (a b i : Nat) (D' : List α) : Prop :=
 D'.length = D.length ∧ ∀ k : Nat, D'[k]? = if a ≤ k ∧ k < a + i then D[k + (b - a)]? else if b ≤ k ∧ k < b + i then D[k - (b - a)]? else D[k]?
theorem Swp.start (D : List α) (a b : Nat) : Swp D a b 0 D := ⟨rfl, fun k => by rw [if_neg (by omega), if_neg (by omega)]⟩
theorem Swp.step {D D' : List α} {a b i n : Nat} {x y : α} (h : Swp D a b i D') (hn : a + n ≤ b) (hi : i < n) (hx : D[b + i]? = some x) (hy : D[a + i]? = some y) : Swp D a b (i + 1) ((D'.set (a + i) x).set (b + i) y) := by
 have hbl := (List.getElem?_eq_some_iff.1 hx).1
 refine ⟨by simp [h.1], fun k => ?_⟩
 rw [List.getElem?_set, List.getElem?_set]
 simp only [List.length_set, h.1]
 by_cases e1 : b + i = k
 ·subst e1
  rw [if_pos rfl, if_pos hbl, if_neg (by omega), if_pos (by omega), ← hy]
  congr 1
  omega
 ·rw [if_neg e1]
  by_cases e2 : a + i = k
  ·subst e2
   rw [if_pos rfl, if_pos (by omega), if_pos (by omega), ← hx]
   congr 1
   omega
  ·rw [if_neg e2, h.2]
   by_cases c1 : a ≤ k ∧ k < a + i
   ·have c1' : a ≤ k ∧ k < a + (i + 1) := by omega
    rw [if_pos c1, if_pos c1']
   ·have c1' : ¬ (a ≤ k ∧ k < a + (i + 1)) := by omega
    rw [if_neg c1, if_neg c1']
    by_cases c2 : b ≤ k ∧ k < b + i
    ·have c2' : b ≤ k ∧ k < b + (i + 1) := by omega
     rw [if_pos c2, if_pos c2']
    ·have c2' : ¬ (b ≤ k ∧ k < b + (i + 1)) := by omega
     rw [if_neg c2, if_neg c2']
theorem Swp.at1 {D D' : List α} {a b i n : Nat} (h : Swp D a b i D') (hn : a + n ≤ b) (hi : i < n) : D'[a + i]? = D[a + i]? := by rw [h.2, if_neg (by omega), if_neg (by omega)]
theorem Swp.at2 {D D' : List α} {a b i n : Nat} (h : Swp D a b i D') (hn : a + n ≤ b) (hi : i < n) : D'[b + i]? = D[b + i]? := by rw [h.2, if_neg (by omega), if_neg (by omega)]
theorem Swp.fin {P X M Y Q D' : List α} (h : Swp (P ++ (X ++ (M ++ (Y ++ Q)))) P.length (P.length + X.length + M.length) X.length D') (hxy : Y.length = X.length) : D' = P ++ (Y ++ (M ++ (X ++ Q))) := by
 refine List.ext_getElem? fun k => ?_
 rw [h.2]
 simp only [List.getElem?_append, hxy]
 repeat' split
 all_goals first
  | rfl
  | omega
  | (congr 1; omega)
  | (exfalso; omega)
end
end Go.Deco

namespace Go.Deco
open Go Go.RowKit
set_option linter.unusedSimpArgs false
set_option linter.unusedVariables false

abbrev Fd := Int × Ty
structure Acc where
 base : Int
 off : Int
 width : Int
 sgn : Bool
deriving DecidableEq
def validA (a : Acc) : Bool := decide (a.width = 1 ∨ a.width = 2 ∨ a.width = 4) && decide (0 ≤ a.off) && decide (a.off ≤ 65532)
def partA (a : Acc) : Fd := (a.off, if a.sgn then Ty.int a.width else Ty.uint a.width)
def endF (f : Fd) : Int := f.1 + sizeT f.2
def ltF (x y : Fd) : Bool := decide (x.1 < y.1)
theorem weakF : Weak ltF := ⟨fun x y h => by simp [ltF] at h ⊢; omega, fun x y z h k => by simp [ltF] at h k ⊢; omega⟩
/-- One part more behind the groups; n: the end of all. -/
def grpS (st : List (List Fd) × Int) (f : Fd) : List (List Fd) × Int :=
 (if st.1 ≠ [] ∧ f.1 < st.2 then st.1.dropLast ++ [(st.1.getLast?.getD []) ++ [f]] else st.1 ++ [[f]], max st.2 (endF f))
def groupsF (l : List Fd) : List (List Fd) := ((stab ltF l).foldl grpS ([], 0)).1
def intK (t : Ty) : Bool := decide (t.kind = 1) || decide (t.kind = 2)
def headF (g : List Fd) : Fd := g.head?.getD (0, Ty.unk)
def lastF (g : List Fd) : Int := g.foldl (fun n f => max n (endF f)) 0
def sameG (g : List Fd) : Bool := g.all fun f => decide (f.1 = (headF g).1) && sameT f.2 (headF g).2
def sizedG (g : List Fd) : Bool := intK (headF g).2 && g.all fun f => decide (f.1 = (headF g).1) && intK f.2 && decide (f.2.size = (headF g).2.size)
def fieldG (g : List Fd) : Fd × Bool :=
 if sameG g then (headF g, false) else if sizedG g then (((headF g).1, Ty.int (headF g).2.size), false)
 else (((headF g).1, Ty.arr (Ty.uint 1) (lastF g - (headF g).1)), true)
def rowFrom (t : Ty) : Int → List Fd → Bool
 | _, [] => true
 | n, f :: l => decide (f.1 = n) && sameT f.2 t && rowFrom t (endF f) l
def rowF (l : List Fd) : Bool := decide (1 < l.length) && rowFrom (headF l).2 0 l
/-- A type or an error. -/
def arrangeF (p : List Fd) : Ty × Nat :=
 let l := (groupsF p).map fun g => (fieldG g).1
 if 64 < l.length then (Ty.unk, 6) else if rowF l then (Ty.arr (headF l).2 l.length, 0) else (Ty.str l, 0)
def layoutA (l : List Acc) : Ty × Nat :=
 if 1024 < l.length then (Ty.unk, 6) else
 if l.all fun a => validA a && decide (a.base = ((l.head?.map Acc.base).getD 0)) then arrangeF (l.map partA) else (Ty.unk, 2)
/-- The distance of neighbours. -/
def offsA (l : List Acc) : List Int := (l.filter validA).map Acc.off
def hitsA (l : List Acc) (a : Acc) : Nat :=
 ((groupsF (((l.filter validA).filter fun x => decide (x.base = a.base)).map partA)).filter fun g => (fieldG g).2 && decide ((fieldG g).1.1 ≤ a.off) && decide (a.off < endF (fieldG g).1)).length
def conflA (l : List Acc) : List Nat := (l.zipIdx.filterMap fun x => if validA x.1 then some (List.replicate (hitsA l x.1) x.2) else none).flatten
def properT (t : Ty) : Bool := if t.kind = 4 then decide (0 < sizeT t) else decide (t.kind = 5) && t.fields.all fun f => !decide (sizeT f.2 = 0)
def countT (t : Ty) : Int := if t.kind = 4 then t.count else t.fields.length
def rowParts (t : Ty) (n : Int) : Nat → List Fd
 | 0 => []
 | k + 1 => rowParts t n k ++ [(k * n, t)]
def partsT (t : Ty) : List Fd := if t.kind = 4 then (match t.elem with | [] => [] | x :: _ => rowParts x (sizeT x) t.count.toNat) else t.fields
def mergeT (a b : Ty) : Ty × Nat :=
 if chkT a ≠ 0 then (Ty.unk, chkT a) else if chkT b ≠ 0 then (Ty.unk, chkT b) else
 if properT a = false ∨ properT b = false then (Ty.unk, 16) else
 if 1024 < countT a ∨ 1024 < countT b then (Ty.unk, 6) else arrangeF (partsT a ++ partsT b)
end Go.Deco

namespace Go.Deco
open Go Go.RowKit
set_option linter.unusedSimpArgs false
set_option linter.unusedVariables false

/-! ### rows whose elements have several cells -/
def setRow (w : World) (g : Nat) : Nat → List Value → World
 | _, [] => w
 | off, c :: cs => setRow (w.setCell ⟨g, off, none⟩ c) g (off + 1) cs
def setL : List Value → Nat → List Value → List Value
 | xs, _, [] => xs
 | xs, off, c :: cs => setL (xs.set off c) (off + 1) cs
theorem setL_app : ∀ (cs old pre post : List Value), old.length = cs.length → setL (pre ++ (old ++ post)) pre.length cs = pre ++ (cs ++ post)
 | [], old, pre, post, h => by
  rw [List.length_eq_zero_iff.1 h]; rfl
 | c :: cs, [], pre, post, h => by simp at h
 | c :: cs, o :: old, pre, post, h => by
  have e : (pre ++ (o :: old ++ post)).set pre.length c = (pre ++ [c]) ++ (old ++ post) := by simp
  have el : pre.length + 1 = (pre ++ [c]).length := by simp
  rw [setL, e, el, setL_app cs old (pre ++ [c]) post (by simpa using h)]
  simp
section
variable {E : Type} {R : Rep E} {w w' : World} {S T : Nat → Prop}
theorem chunks_split : ∀ {l : List E} {xs : List Value} {k : Nat} {e : E}, Chunks R w S xs l → l[k]? = some e →
  ∃ pre old post, xs = pre ++ (old ++ post) ∧ pre.length = k * R.size ∧ R.rel w S old e ∧ ∀ cs e', R.rel w S cs e' → Chunks R w S (pre ++ (cs ++ post)) (l.set k e')
 | [], _, _, _, _, h => by simp at h
 | x :: l, _, 0, e, ⟨cs, rest, hx, hr, hc⟩, h => by
  simp at h
  subst h
  refine ⟨[], cs, rest, by simpa using hx, by simp, hr, fun cs' e' h' => ?_⟩
  exact ⟨cs', rest, rfl, h', hc⟩
 | x :: l, _, k + 1, e, ⟨cs, rest, hx, hr, hc⟩, h => by
  obtain ⟨pre, old, post, h1, h2, h3, h4⟩ := chunks_split hc (by simpa using h)
  refine ⟨cs ++ pre, old, post, by rw [hx, h1, List.append_assoc], by rw [List.length_append, R.len hr, h2, Nat.succ_mul, Nat.add_comm], h3, fun cs' e' h' => ?_⟩
  exact ⟨cs, pre ++ (cs' ++ post), by rw [List.append_assoc], hr, h4 cs' e' h'⟩
theorem chunks_setL {l : List E} {xs cs : List Value} {k : Nat} {e e' : E} (h : Chunks R w S xs l) (hk : l[k]? = some e) (hr : R.rel w S cs e') : Chunks R w S (setL xs (k * R.size) cs) (l.set k e') := by
 obtain ⟨pre, old, post, rfl, h2, h3, h4⟩ := chunks_split h hk
 rw [← h2, setL_app cs old pre post (by rw [R.len h3, R.len hr])]
 exact h4 cs e' hr
theorem setRow_heap : ∀ (cs : List Value) (w : World) (g off b : Nat), b ≠ g → (setRow w g off cs).heap[b]? = w.heap[b]?
 | [], _, _, _, _, _ => rfl
 | c :: cs, w, g, off, b, h => by
  rw [setRow, setRow_heap cs _ g _ b h]
  exact Below.heap_setCell _ _ _ _ h
theorem setRow_ext : ∀ (cs : List Value) {w0 w : World} (g off : Nat), Ext w0 w → w0.heap.size ≤ g → Ext w0 (setRow w g off cs)
 | [], _, _, _, _, h, _ => h
 | c :: cs, _, _, g, off, h, hg => setRow_ext cs g (off + 1) (h.setCell hg c) hg
theorem setRow_owns : ∀ (cs : List Value) {w : World} {base g n c : Nat} {e : TypeId} {size : Nat} {xs : List Value} (off : Nat), w.ownsRow base e size (.slice (some ⟨g, 0, none⟩) n c) n xs → off + cs.length ≤ n * size →
  (setRow w g off cs).ownsRow base e size (.slice (some ⟨g, 0, none⟩) n c) n (setL xs off cs)
 | [], _, _, _, _, _, _, _, _, _, h, _ => h
 | u :: cs, w, _, g, _, _, _, _, xs, off, h, ho => setRow_owns cs (off + 1) (h.stored off u).1 (by simp at ho; omega)
/-- An element of an owned row: its cells, none of them frozen. -/
theorem OwnS.cells {base g n c k : Nat} {t : TypeId} {l : List E} {e : E} (h : OwnS R w base t T (.slice (some ⟨g, 0, none⟩) n c) l) (hk : l[k]? = some e) :
  ∃ cs, R.rel w (fun b => T b ∧ b ≠ g) cs e ∧ ∀ j u, cs[j]? = some u → w.cell? ⟨g, k * R.size + j, none⟩ = some u ∧ w.frozen? ⟨g, k * R.size + j, none⟩ = false := by
 have hn := h.len
 obtain ⟨xs, ho, hc⟩ := h
 obtain ⟨cs, hr, hat⟩ := hc.get hk
 have hlt := (List.getElem?_eq_some_iff.1 hk).1
 rw [← hn] at ho
 refine ⟨cs, R.mono (fun b hb _ => ⟨hb.1, fun e => hb.2 (by rw [e]; rfl)⟩) hr, fun j u hu => ⟨?_, ho.frozenAt _⟩⟩
 have hj := (List.getElem?_eq_some_iff.1 hu).1
 rw [R.len hr] at hj
 have hm : (k + 1) * R.size ≤ n * R.size := Nat.mul_le_mul_right _ (by omega)
 rw [Nat.succ_mul] at hm
 rw [ho.cellAt _ (by omega)]
 exact hat j u hu
/-- An element of an owned row written. -/
theorem OwnS.put {base g n c k : Nat} {t : TypeId} {l : List E} {e e' : E} {cs : List Value} (h : OwnS R w base t T (.slice (some ⟨g, 0, none⟩) n c) l) (hk : l[k]? = some e) (hr : R.rel w (fun b => T b ∧ b ≠ g) cs e') :
  OwnS R (setRow w g (k * R.size) cs) base t T (.slice (some ⟨g, 0, none⟩) n c) (l.set k e') := by
 have hn := h.len
 obtain ⟨xs, ho, hc⟩ := h
 have hlt := (List.getElem?_eq_some_iff.1 hk).1
 have hm : (k + 1) * R.size ≤ n * R.size := Nat.mul_le_mul_right _ (by omega)
 rw [Nat.succ_mul] at hm
 refine ⟨setL xs (k * R.size) cs, ?_, ?_⟩
 ·rw [List.length_set, ← hn]
  rw [← hn] at ho
  exact setRow_owns cs _ ho (by rw [R.len hr]; omega)
 ·have h2 := chunks_setL hc hk (R.mono (fun b hb _ => ⟨hb.1, fun e => by simp [Value.ownBlock] at e; exact hb.2 e⟩) hr)
  exact h2.keep fun b hb _ => setRow_heap cs w g _ b fun e => hb.2 (by rw [e]; rfl)
/-- .. some of its cells at least. -/
theorem setL_same : ∀ (pre cs xs : List Value) (off : Nat), (∀ i u, pre[i]? = some u → xs[off + i]? = some u) → setL xs off (pre ++ cs) = setL xs (off + pre.length) cs
 | [], cs, xs, off, _ => by simp
 | p :: pre, cs, xs, off, h => by
  have h0 : xs[off]? = some p := by have := h 0 p rfl; simpa using this
  have e : xs.set off p = xs := by
   obtain ⟨hlt, he⟩ := List.getElem?_eq_some_iff.1 h0
   rw [← he]
   exact List.set_getElem_self hlt
  rw [List.cons_append, setL, e, setL_same pre cs xs (off + 1) (fun i u hu => by have := h (i + 1) u (by simpa using hu); rwa [show off + (i + 1) = off + 1 + i by omega] at this), List.length_cons, show off + (pre.length + 1) = off + 1 + pre.length by omega]
theorem OwnS.put2 {base g n c k : Nat} {t : TypeId} {l : List E} {e e' : E} {pre cs : List Value} (h : OwnS R w base t T (.slice (some ⟨g, 0, none⟩) n c) l) (hk : l[k]? = some e) (hr : R.rel w (fun b => T b ∧ b ≠ g) (pre ++ cs) e')
  (hpre : ∀ i u, pre[i]? = some u → w.cell? ⟨g, k * R.size + i, none⟩ = some u) : OwnS R (setRow w g (k * R.size + pre.length) cs) base t T (.slice (some ⟨g, 0, none⟩) n c) (l.set k e') := by
 have hn := h.len
 have hlen := R.len hr
 rw [List.length_append] at hlen
 obtain ⟨xs, ho, hc⟩ := h
 have hlt := (List.getElem?_eq_some_iff.1 hk).1
 have hm : (k + 1) * R.size ≤ n * R.size := Nat.mul_le_mul_right _ (by omega)
 rw [Nat.succ_mul] at hm
 rw [← hn] at ho
 have hs : setL xs (k * R.size) (pre ++ cs) = setL xs (k * R.size + pre.length) cs := setL_same pre cs xs _ fun i u hu => by
  have hi := (List.getElem?_eq_some_iff.1 hu).1
  rw [← ho.cellAt _ (by omega)]
  exact hpre i u hu
 refine ⟨setL xs (k * R.size + pre.length) cs, ?_, ?_⟩
 ·rw [List.length_set, ← hn]
  exact setRow_owns cs _ ho (by omega)
 ·rw [← hs]
  have h2 := chunks_setL hc hk (R.mono (fun b hb _ => ⟨hb.1, fun e => by simp [Value.ownBlock] at e; exact hb.2 e⟩) hr)
  exact h2.keep fun b hb _ => setRow_heap cs w g _ b fun e => hb.2 (by rw [e]; rfl)
end

/-- Elements of which it is known whether they lie behind the block base. -/
def flR {E : Type} (R : Rep E) (base : Nat) : Rep (E × Bool) where
 size := R.size
 pos := R.pos
 rel w S cs x := R.rel w (fun b => S b ∧ (x.2 = true → base ≤ b)) cs x.1
 keep hk h := R.keep (fun b hb => hk b hb.1) h
 mono hk h := R.mono (fun b hb hi => ⟨hk b hb.1 hi, hb.2⟩) h
 len h := R.len h
 one h := R.one h
def flagL {E : Type} (l : List E) (k : Nat) : List (E × Bool) := (l.take k).map (fun x => (x, true)) ++ (l.drop k).map (fun x => (x, false))
theorem flagL_at {E : Type} {l : List E} {k : Nat} {x : E} (h : l[k]? = some x) : (flagL l k)[k]? = some (x, false) := by
 have hk := (List.getElem?_eq_some_iff.1 h).1
 unfold flagL
 rw [List.getElem?_append_right (by simp; omega)]
 simp [Nat.min_eq_left (by omega : k ≤ l.length), h]
theorem flagL_set {E : Type} {l : List E} {k : Nat} {x : E} (h : l[k]? = some x) : (flagL l k).set k (x, true) = flagL l (k + 1) := by
 have hk := (List.getElem?_eq_some_iff.1 h).1
 unfold flagL
 have hd : l.drop k = x :: l.drop (k + 1) := by
  obtain ⟨h1, h2⟩ := List.getElem?_eq_some_iff.1 h
  rw [← h2]; exact List.drop_eq_getElem_cons h1
 have ht : l.take (k + 1) = l.take k ++ [x] := by rw [List.take_add_one, h]; rfl
 rw [hd, ht]
 rw [List.set_append_right _ _ (by simp; omega)]
 simp [Nat.min_eq_left (by omega : k ≤ l.length)]
section
variable {E : Type} {R : Rep E} {w : World} {S T : Nat → Prop} {b0 base : Nat} {e : TypeId} {v : Value}
theorem chunks_flag {b : Bool} (hT : b = true → ∀ x, S x → b0 ≤ x) : ∀ {l : List E} {xs : List Value}, Chunks R w S xs l → Chunks (flR R b0) w S xs (l.map fun x => (x, b))
 | [], _, h => h
 | x :: l, _, ⟨cs, rest, hx, hr, h⟩ => ⟨cs, rest, hx, R.mono (fun y hy _ => ⟨hy, fun hb => hT hb y hy⟩) hr, chunks_flag hT h⟩
theorem OwnS.monoT {T' : Nat → Prop} {l : List E} (h : OwnS R w base e T v l) (hT : ∀ b, T b → IsCells w b → T' b) : OwnS R w base e T' v l := by
 obtain ⟨xs, ho, hc⟩ := h
 exact ⟨xs, ho, hc.mono fun b hb hi => ⟨hT b hb.1 hi, hb.2⟩⟩
theorem OwnS.flag {l : List E} (h : OwnS R w base e T v l) : OwnS (flR R b0) w base e T v (flagL l 0) := by
 obtain ⟨xs, ho, hc⟩ := h
 have e1 : flagL l 0 = l.map fun x => (x, false) := by simp [flagL]
 rw [e1]
 exact ⟨xs, by rw [List.length_map]; exact ho, chunks_flag (b := false) (fun h => by cases h) hc⟩
theorem chunks_unflag : ∀ {l : List E} {xs : List Value}, Chunks (flR R b0) w S xs (l.map fun x => (x, true)) → Chunks R w (fun b => S b ∧ b0 ≤ b) xs l
 | [], _, h => h
 | x :: l, _, ⟨cs, rest, hx, hr, h⟩ => ⟨cs, rest, hx, R.mono (fun y hy _ => ⟨hy.1, hy.2 rfl⟩) hr, chunks_unflag h⟩
theorem OwnS.unflag {l : List E} {k : Nat} (h : OwnS (flR R b0) w base e T v (flagL l k)) (hk : l.length ≤ k) : OwnS R w base e (fun b => T b ∧ b0 ≤ b) v l := by
 have e1 : flagL l k = l.map fun x => (x, true) := by simp [flagL, List.take_of_length_le hk, List.drop_eq_nil_of_le hk]
 rw [e1] at h
 obtain ⟨xs, ho, hc⟩ := h
 rw [List.length_map] at ho
 exact ⟨xs, ho, (chunks_unflag hc).mono fun b hb _ => ⟨⟨hb.1.1, hb.2⟩, hb.1.2⟩⟩
end

/-! ### types as values -/
/-- v is the type t, whose parts have at most d levels and lie in the blocks S. -/
def TyV (d : Nat) (w : World) (S : Nat → Prop) (v : Value) (t : Ty) : Prop :=
 ∃ A n c B m e, v = .agg #[.int .i64 t.kind, .int .i64 t.size, .int .i64 t.count, .slice A n c, .slice B m e] ∧ Sl (tyR d) w S (.slice A n c) t.elem ∧ Sl (fdR (tyR d)) w S (.slice B m e) t.fields ∧
  i64b t.kind ∧ i64b t.size ∧ i64b t.count
/-- v is the field f. -/
def FdV (d : Nat) (w : World) (S : Nat → Prop) (v : Value) (f : Int × Ty) : Prop :=
 ∃ A n c B m e, v = .agg #[.int .i64 f.1, .int .i64 f.2.kind, .int .i64 f.2.size, .int .i64 f.2.count, .slice A n c, .slice B m e] ∧ i64b f.1 ∧
  TyV d w S (.agg #[.int .i64 f.2.kind, .int .i64 f.2.size, .int .i64 f.2.count, .slice A n c, .slice B m e]) f.2
section
variable {d d' : Nat} {w w' : World} {S S' : Nat → Prop} {v : Value} {t : Ty} {f : Int × Ty}
theorem TyV.ext (h : TyV d w S v t) (he : Ext w w') : TyV d w' S v t := by
 obtain ⟨A, n, c, B, m, e, h0, h1, h2, h3⟩ := h
 exact ⟨A, n, c, B, m, e, h0, h1.ext he, h2.ext he, h3⟩
theorem TyV.keep (hk : ∀ b, S b → IsCells w b → w'.heap[b]? = w.heap[b]?) (h : TyV d w S v t) : TyV d w' S v t := by
 obtain ⟨A, n, c, B, m, e, h0, h1, h2, h3⟩ := h
 exact ⟨A, n, c, B, m, e, h0, h1.keep hk, h2.keep hk, h3⟩
theorem TyV.mono (hk : ∀ b, S b → IsCells w b → S' b) (h : TyV d w S v t) : TyV d w S' v t := by
 obtain ⟨A, n, c, B, m, e, h0, h1, h2, h3⟩ := h
 exact ⟨A, n, c, B, m, e, h0, h1.mono hk, h2.mono hk, h3⟩
theorem TyV.all (h : TyV d w S v t) : TyV d w All v t := h.mono fun _ _ _ => trivial
theorem FdV.ext (h : FdV d w S v f) (he : Ext w w') : FdV d w' S v f := by
 obtain ⟨A, n, c, B, m, e, h0, h1, h2⟩ := h
 exact ⟨A, n, c, B, m, e, h0, h1, h2.ext he⟩
theorem FdV.mono (hk : ∀ b, S b → IsCells w b → S' b) (h : FdV d w S v f) : FdV d w S' v f := by
 obtain ⟨A, n, c, B, m, e, h0, h1, h2⟩ := h
 exact ⟨A, n, c, B, m, e, h0, h1, h2.mono hk⟩
theorem fdR_up {d d' : Nat} (hd : d ≤ d') : ∀ (w : World) (S : Nat → Prop) (cs : List Value) (f : Int × Ty), (fdR (tyR d)).rel w S cs f → (fdR (tyR d')).rel w S cs f :=
 fun w S cs f ⟨r, k1, k2, k3⟩ => ⟨r, k1, tyR_le hd _ _ _ _ k2, k3⟩
theorem fdR_size (d : Nat) : (fdR (tyR d)).size = 6 := by show (tyR d).size + 1 = 6; rw [tyR_size]
theorem Sl.ty_up {l : List Ty} (hd : d ≤ d') (h : Sl (tyR d) w S v l) : Sl (tyR d') w S v l := Sl.up (by rw [tyR_size, tyR_size]) (tyR_le hd) h
theorem Sl.fd_up {l : List (Int × Ty)} (hd : d ≤ d') (h : Sl (fdR (tyR d)) w S v l) : Sl (fdR (tyR d')) w S v l := Sl.up (by rw [fdR_size, fdR_size]) (fdR_up hd) h
theorem TyV.up (hd : d ≤ d') (h : TyV d w S v t) : TyV d' w S v t := by
 obtain ⟨A, n, c, B, m, e, h0, h1, h2, h3⟩ := h
 exact ⟨A, n, c, B, m, e, h0, h1.ty_up hd, h2.fd_up hd, h3⟩
theorem FdV.up (hd : d ≤ d') (h : FdV d w S v f) : FdV d' w S v f := by
 obtain ⟨A, n, c, B, m, e, h0, h1, h2⟩ := h
 exact ⟨A, n, c, B, m, e, h0, h1, h2.up hd⟩
/-- From cells to the value and back. -/
theorem ty_rel {cs : List Value} : (tyR (d + 1)).rel w S cs t ↔ ∃ v, TyV d w S v t ∧ v = .agg cs.toArray := by
 constructor
 ·rintro ⟨ve, vf, rfl, h1, h2, h3⟩
  obtain ⟨A, c, rfl, _⟩ := h1.form
  obtain ⟨B, e, rfl, _⟩ := h2.form
  exact ⟨_, ⟨A, _, c, B, _, e, rfl, h1, h2, h3⟩, rfl⟩
 ·rintro ⟨_, ⟨A, n, c, B, m, e, rfl, h1, h2, h3⟩, hv⟩
  injection hv with hv
  have : cs = [.int .i64 t.kind, .int .i64 t.size, .int .i64 t.count, .slice A n c, .slice B m e] := by
   have := congrArg Array.toList hv
   simpa using this.symm
  exact ⟨_, _, this, h1, h2, h3⟩
theorem fd_rel {cs : List Value} : (fdR (tyR (d + 1))).rel w S cs f ↔ FdV d w S (.agg cs.toArray) f := by
 constructor
 ·rintro ⟨r, rfl, h1, h2⟩
  obtain ⟨_, ⟨A, n, c, B, m, e, rfl, h3⟩, hv⟩ := ty_rel.1 h1
  injection hv with hv
  have : r = [.int .i64 f.2.kind, .int .i64 f.2.size, .int .i64 f.2.count, .slice A n c, .slice B m e] := by
   have := congrArg Array.toList hv
   simpa using this.symm
  subst this
  exact ⟨A, n, c, B, m, e, rfl, h2, ⟨A, n, c, B, m, e, rfl, h3⟩⟩
 ·rintro ⟨A, n, c, B, m, e, hv, h1, h2⟩
  injection hv with hv
  have : cs = [.int .i64 f.1, .int .i64 f.2.kind, .int .i64 f.2.size, .int .i64 f.2.count, .slice A n c, .slice B m e] := by
   have := congrArg Array.toList hv
   simpa using this
  exact ⟨_, this, ty_rel.2 ⟨_, h2, rfl⟩, h1⟩
/-- A type of a slice. -/
theorem Sl.ty_at {l : List Ty} {A : Option Addr} {n c k : Nat} (h : Sl (tyR d) w S (.slice A n c) l) (hk : l[k]? = some t) :
  ∃ d' b off A1 n1 c1 B1 m1 e1, d = d' + 1 ∧ A = some ⟨b, off, none⟩ ∧ TyV d' w S (.agg #[.int .i64 t.kind, .int .i64 t.size, .int .i64 t.count, .slice A1 n1 c1, .slice B1 m1 e1]) t ∧
   w.cell? ⟨b, off + k * 5, none⟩ = some (.int .i64 t.kind) ∧ w.cell? ⟨b, off + k * 5 + 1, none⟩ = some (.int .i64 t.size) ∧ w.cell? ⟨b, off + k * 5 + 2, none⟩ = some (.int .i64 t.count) ∧
   w.cell? ⟨b, off + k * 5 + 3, none⟩ = some (.slice A1 n1 c1) ∧ w.cell? ⟨b, off + k * 5 + 4, none⟩ = some (.slice B1 m1 e1) := by
 obtain ⟨A', c', hv, h1, h2, h3, h4⟩ := h
 simp only [Value.slice.injEq] at hv
 obtain ⟨rfl, rfl, rfl⟩ := hv
 obtain ⟨b, off, rfl, _, hc⟩ := h4 (by rintro rfl; simp at hk)
 obtain ⟨cs, hr, hat⟩ := hc k t hk
 rw [tyR_size] at hat
 cases d with
 | zero => exact hr.elim
 | succ d' =>
  obtain ⟨_, ⟨A1, n1, c1, B1, m1, e1, rfl, h5⟩, hv⟩ := ty_rel.1 hr
  injection hv with hv
  have : cs = [.int .i64 t.kind, .int .i64 t.size, .int .i64 t.count, .slice A1 n1 c1, .slice B1 m1 e1] := by
   have := congrArg Array.toList hv
   simpa using this.symm
  subst this
  refine ⟨d', b, off, A1, n1, c1, B1, m1, e1, rfl, rfl, ⟨A1, n1, c1, B1, m1, e1, rfl, h5⟩, ?_, ?_, ?_, ?_, ?_⟩
  ·simpa using hat 0 _ rfl
  ·simpa [Nat.add_assoc] using hat 1 _ rfl
  ·simpa [Nat.add_assoc] using hat 2 _ rfl
  ·simpa [Nat.add_assoc] using hat 3 _ rfl
  ·simpa [Nat.add_assoc] using hat 4 _ rfl
/-- A field of a slice. -/
theorem Sl.fd_at {l : List (Int × Ty)} {A : Option Addr} {n c k : Nat} (h : Sl (fdR (tyR d)) w S (.slice A n c) l) (hk : l[k]? = some f) :
  ∃ d' b off A1 n1 c1 B1 m1 e1, d = d' + 1 ∧ A = some ⟨b, off, none⟩ ∧ TyV d' w S (.agg #[.int .i64 f.2.kind, .int .i64 f.2.size, .int .i64 f.2.count, .slice A1 n1 c1, .slice B1 m1 e1]) f.2 ∧ i64b f.1 ∧
   w.cell? ⟨b, off + k * 6, none⟩ = some (.int .i64 f.1) ∧
   w.cell? ⟨b, off + k * 6 + 1, none⟩ = some (.int .i64 f.2.kind) ∧ w.cell? ⟨b, off + k * 6 + 2, none⟩ = some (.int .i64 f.2.size) ∧ w.cell? ⟨b, off + k * 6 + 3, none⟩ = some (.int .i64 f.2.count) ∧
   w.cell? ⟨b, off + k * 6 + 4, none⟩ = some (.slice A1 n1 c1) ∧ w.cell? ⟨b, off + k * 6 + 5, none⟩ = some (.slice B1 m1 e1) := by
 obtain ⟨A', c', hv, h1, h2, h3, h4⟩ := h
 simp only [Value.slice.injEq] at hv
 obtain ⟨rfl, rfl, rfl⟩ := hv
 obtain ⟨b, off, rfl, _, hc⟩ := h4 (by rintro rfl; simp at hk)
 obtain ⟨cs, hr, hat⟩ := hc k f hk
 rw [fdR_size] at hat
 cases d with
 | zero => obtain ⟨r, _, hr, _⟩ := hr; exact hr.elim
 | succ d' =>
  obtain ⟨A1, n1, c1, B1, m1, e1, hv, h5, h6⟩ := fd_rel.1 hr
  injection hv with hv
  have : cs = [.int .i64 f.1, .int .i64 f.2.kind, .int .i64 f.2.size, .int .i64 f.2.count, .slice A1 n1 c1, .slice B1 m1 e1] := by
   have := congrArg Array.toList hv
   simpa using this
  subst this
  refine ⟨d', b, off, A1, n1, c1, B1, m1, e1, rfl, rfl, h6, h5, ?_, ?_, ?_, ?_, ?_, ?_⟩
  ·simpa using hat 0 _ rfl
  ·simpa [Nat.add_assoc] using hat 1 _ rfl
  ·simpa [Nat.add_assoc] using hat 2 _ rfl
  ·simpa [Nat.add_assoc] using hat 3 _ rfl
  ·simpa [Nat.add_assoc] using hat 4 _ rfl
  ·simpa [Nat.add_assoc] using hat 5 _ rfl
end
end Go.Deco

namespace Go.Deco
open Go Go.RowKit Go.Maps
set_option linter.unusedVariables false

/-- How a key of a map's type is written, as a plain datum. -/
structure KeyG (P : Program) (k : TypeId) (κ : Type) where
 lit : κ → Lit
 val : κ → Value
 ok : κ → Prop
 inj : ∀ {a b : κ}, lit a = lit b → a = b
 key : ∀ {x : κ}, ok x → keyOf P k (val x) = some (lit x)
 inv : ∀ {v : Value} {l : Lit}, keyOf P k v = some l → ∃ x, ok x ∧ v = val x ∧ l = lit x
 law : Keyed P k

theorem wf_u32 {x : Nat} (h : x < 4294967296) : (Lit.int .u32 (x : Int)).wf = true := by
 simp [Lit.wf, IntKind.min, IntKind.max, IntKind.signed, IntKind.bits]
 omega
def u32K {P : Program} {k : TypeId} (hk : P.underlying k = some (.int .u32)) : KeyG P k Nat where
 lit x := .int .u32 x
 val x := .int .u32 x
 ok x := x < 4294967296
 inj h := by
  injection h with _ h
  exact_mod_cast h
 key h := keyOf_int_mk hk (wf_u32 h)
 inv h := by
  obtain ⟨x, rfl, rfl, hw⟩ := Maps.keyOf_int_inv hk h
  have := wf32 hw
  exact ⟨x.toNat, by omega, by rw [Int.toNat_of_nonneg this.1], by rw [Int.toNat_of_nonneg this.1]⟩
 law := int_keyed hk
def strK {P : Program} {k : TypeId} (hk : P.underlying k = some .string) : KeyG P k (List UInt8) where
 lit x := .string x
 val x := .string ⟨x.toArray⟩
 ok x := x.length ≤ maxLen
 inj h := by
  injection h
 key {x} h := by
  have := Go.WideMaps.keyOf_string_mk hk (s := ⟨x.toArray⟩) (by simpa [ByteArray.size] using h)
  simpa using this
 inv {v l} h := by
  cases v <;> simp [keyOf, hk, mapKey] at h
  rename_i s
  obtain ⟨hs, rfl⟩ := h
  exact ⟨s.data.toList, by simpa using hs, by simp, rfl⟩
 law := string_keyed hk

def heldV (v : Value) : Option (DataW Value × List MemPlace) := some (.held v, [])
def lookV (D : DataW Value) (kl : Lit) : Option Value := match D.atKey kl .nil with | .held v => some v | _ => none

section
variable {P : Program} {k : TypeId} {κ : Type} {G : KeyG P k κ} {w w' : World} {b r n : Nat} {f : κ → Option Value}

/-- Block b is a map of at most n entries that holds f x at the key x. -/
def MapG (G : KeyG P k κ) (w : World) (b n : Nat) (f : κ → Option Value) : Prop := ∃ D, w.ownsMap P k heldV b n D ∧ ∀ x, f x = lookV D (G.lit x)

theorem MapG.made (G : KeyG P k κ) (w : World) : MapG G (w.alloc (.map #[] 0)) w.heap.size 0 (fun _ => none) :=
 ⟨_, World.ownsMap_made w P k heldV, fun x => by simp [lookV, DataW.atKey]⟩
theorem MapG.mono (h : MapG G w b n f) {n' : Nat} (hn : n ≤ n') : MapG G w b n' f := by
 obtain ⟨D, h1, h2⟩ := h
 exact ⟨D, h1.mono hn, h2⟩
theorem MapG.kept {row : Option Nat} (h : MapG G w b n f) (hg : w.grownBy w' row) (hne : some b ≠ row) : MapG G w' b n f := by
 obtain ⟨D, h1, h2⟩ := h
 exact ⟨D, h1.kept hg hne, h2⟩
theorem MapG.ext (h : MapG G w b n f) (he : Ext w w') : MapG G w' b n f := h.kept (he.grownBy none) (by simp)
/-- No row of cells is the map's block. -/
theorem MapG.ne (h : MapG G w b n f) {q : Nat} (hc : IsCells w q) : q ≠ b := by
 rintro rfl
 obtain ⟨c, e, g, hq⟩ := hc
 obtain ⟨D, ⟨es, clock, hb, _⟩, _⟩ := h
 rw [hq] at hb
 cases hb
theorem ownsMap_look {D : DataW Value} {t e : TypeId} (h : w.ownsMap P k heldV b n D) (K : Keyed P k) (ht : P.underlying t = some (.map k e)) {z : Value} (hz : (zeroValue e).run P w = .ok z w) {key : Value} {kl : Lit} (hkey : keyOf P k key = some kl) :
  (Instr.lookup t (.map (some b)) key false).run P w = .ok ((lookV D kl).getD z) w ∧ (Instr.lookup t (.map (some b)) key true).run P w = .ok (.tuple #[(lookV D kl).getD z, .bool (lookV D kl).isSome]) w := by
 obtain ⟨es, clock, hb, F, _, rfl⟩ := h
 have h1 : ∀ c, (Instr.lookup t (.map (some b)) key c).run P w = .ok (if c then .tuple #[(lookV (DataW.map ((es.toList.map (WideElems.rg P k heldV)).foldr DataW.insert [])) kl).getD z, .bool (lookV (DataW.map ((es.toList.map (WideElems.rg P k heldV)).foldr DataW.insert [])) kl).isSome] else (lookV (DataW.map ((es.toList.map (WideElems.rg P k heldV)).foldr DataW.insert [])) kl).getD z) w := by
  intro c
  rcases Maps.fit_look c K ht hz hb F hkey with ⟨hrun, _, hat⟩ | ⟨e0, y, _, _, hrun, hRv, hat, _⟩
  ·have e0 : lookV (DataW.map ((es.toList.map (WideElems.rg P k heldV)).foldr DataW.insert [])) kl = none := by rw [lookV, hat]
   rw [e0, hrun]
   cases c <;> rfl
  ·have e1 : lookV (DataW.map ((es.toList.map (WideElems.rg P k heldV)).foldr DataW.insert [])) kl = some e0.val := by
    rw [lookV, hat]
    simp [heldV] at hRv
    rw [← hRv]
   rw [e1, hrun]
   cases c <;> rfl
 exact ⟨h1 false, h1 true⟩

theorem MapG.put [DecidableEq κ] {t e : TypeId} (h : MapG G w b n f) (ht : P.underlying t = some (.map k e)) (hn : n < maxLen) {x : κ} (hx : G.ok x) (v : Value) :
  ∃ w', (Instr.mapUpdate t (.map (some b)) (G.val x) v).run P w = .ok () w' ∧ MapG G w' b (n + 1) (fun j => if j = x then some v else f j) ∧ w.grownBy w' (some b) := by
 obtain ⟨D, h1, h2⟩ := h
 have hk := G.key hx
 obtain ⟨w', hrun, ho, hg⟩ := h1.update G.law ht hn hk (d := .held v) (ps := []) rfl
 refine ⟨w', hrun, ⟨_, ho, fun j => ?_⟩, hg⟩
 show (if j = x then some v else f j) = _
 by_cases hj : j = x
 ·subst hj
  rw [if_pos rfl, lookV, Maps.atKey_put_same h1.isMap (G.law.key hk)]
 ·rw [if_neg hj, h2, lookV, lookV, Maps.atKey_put_other fun e => hj (G.inj e)]

/-- A range over the map under way: what is still to come; how many. -/
def RangeG (G : KeyG P k κ) (w : World) (b r n : Nat) (f : κ → Option Value) (left : κ → Bool) (cnt : Nat) : Prop :=
 ∃ D lf, w.ranges P k heldV b r n D lf cnt ∧ (∀ x, f x = lookV D (G.lit x)) ∧ ∀ x, G.ok x → left x = lf (G.lit x)
variable (w) {ops : Array Oper} {rest : List Oper} {o : Oper} {a : Act} {Q : Exit → Act → World → Prop}

/-- 'm[k]'. -/
theorem wpList_look (hg : o.guard = none) (m x : Operand) (t : TypeId) (hop : o.op = Op.lookup t m x false) (e : TypeId) (ht : P.underlying t = some (.map k e)) (z : Value) (hz : (zeroValue e).run P w = .ok z w)
  (G : KeyG P k κ) (b n : Nat) (f : κ → Option Value) (hm : a.eval m = .map (some b)) (h : MapG G w b n f) (kx : κ) (hx : a.eval x = G.val kx) (hok : G.ok kx) (v : Value) (hv : (f kx).getD z = v)
  (hK : wpList P ops Q rest (a.put o.dst v) w) : wpList P ops Q (o :: rest) a w := by
 refine wpList_plain hg fun K' hK' => ?_
 obtain ⟨D, h1, h2⟩ := h
 have hrun := (ownsMap_look h1 G.law ht hz (G.key hok)).1
 rw [← h2, hv] at hrun
 unfold Oper.wp
 simp [execOp, hop, hm, hx, hrun, Result.andThen]
 exact hK' _ _ hK
/-- 'm[k] = v'. -/
theorem wpList_put [DecidableEq κ] (hg : o.guard = none) (m x y : Operand) (t : TypeId) (hop : o.op = Op.mapUpdate t m x y) (e : TypeId) (ht : P.underlying t = some (.map k e))
  (G : KeyG P k κ) (b n : Nat) (f : κ → Option Value) (hm : a.eval m = .map (some b)) (h : MapG G w b n f) (hn : n < maxLen) (kx : κ) (hx : a.eval x = G.val kx) (hok : G.ok kx) (v : Value) (hv : a.eval y = v)
  (hK : ∀ w', MapG G w' b (n + 1) (fun j => if j = kx then some v else f j) → w.grownBy w' (some b) → wpList P ops Q rest (a.put o.dst undef) w') : wpList P ops Q (o :: rest) a w := by
 refine wpList_plain hg fun K' hK' => ?_
 obtain ⟨w', hrun, r1, r2⟩ := h.put ht hn hok v
 unfold Oper.wp
 simp [execOp, hop, hm, hx, hv, hrun, Result.andThen]
 exact hK' _ _ (hK w' r1 r2)
end
end Go.Deco
