/- Data that lie in their cells alone: reading and writing a field in a row of the call's own. No program in sight. -/
import Derived.Test.YtnlofhbimfcejaaBase
namespace Go.Deco
open Go Go.RowKit
set_option linter.unusedVariables false

/-- The datum's cells say all. -/
structure Pure {E : Type} (R : Rep E) where
  cells : E → List Value
  ok : E → Prop
  iff : ∀ (w : World) (S : Nat → Prop) (cs : List Value) (e : E), R.rel w S cs e ↔ cs = cells e ∧ ok e
  len : ∀ e, (cells e).length = R.size

section
variable {E : Type} {R : Rep E} (p : Pure R) {w w' : World} {S T : Nat → Prop} {l : List E}
theorem Pure.chunks : ∀ {l : List E} {xs : List Value}, Chunks R w S xs l ↔ xs = l.flatMap p.cells ∧ ∀ e ∈ l, p.ok e
  | [], xs => by simp [Chunks]
  | y :: l, xs => by
    constructor
    · rintro ⟨cs, rest, rfl, hr, h⟩
      obtain ⟨rfl, hy⟩ := (p.iff _ _ _ _).1 hr
      obtain ⟨rfl, h2⟩ := (Pure.chunks).1 h
      refine ⟨by rw [List.flatMap_cons], fun x hx => ?_⟩
      rcases List.mem_cons.1 hx with rfl | hx
      · exact hy
      · exact h2 x hx
    · rintro ⟨rfl, h⟩
      exact ⟨_, _, by rw [List.flatMap_cons], (p.iff _ _ _ _).2 ⟨rfl, h y (by simp)⟩, Pure.chunks.2 ⟨rfl, fun x hx => h x (by simp [hx])⟩⟩
theorem Pure.at : ∀ {l : List E} {k i : Nat} {x : E} {u : Value}, l[k]? = some x → (p.cells x)[i]? = some u → (l.flatMap p.cells)[k * R.size + i]? = some u
  | [], _, _, _, _, h, _ => by simp at h
  | y :: l, 0, i, x, u, h, hu => by
    simp at h
    subst h
    rw [List.flatMap_cons, Nat.zero_mul, Nat.zero_add, List.getElem?_append_left (List.getElem?_eq_some_iff.1 hu).1]
    exact hu
  | y :: l, k + 1, i, x, u, h, hu => by
    have := Pure.at (l := l) (k := k) (by simpa using h) hu
    rw [List.flatMap_cons, List.getElem?_append_right (by rw [p.len, Nat.succ_mul]; omega), p.len, show (k + 1) * R.size + i - R.size = k * R.size + i by rw [Nat.succ_mul]; omega]
    exact this
theorem Pure.put : ∀ {l : List E} {k i : Nat} {x y : E} {u : Value}, l[k]? = some x → i < R.size → (p.cells x).set i u = p.cells y → (l.flatMap p.cells).set (k * R.size + i) u = (l.set k y).flatMap p.cells
  | [], _, _, _, _, _, h, _, _ => by simp at h
  | z :: l, 0, i, x, y, u, h, hi, hu => by
    simp at h
    subst h
    rw [List.flatMap_cons, Nat.zero_mul, Nat.zero_add, List.set_append_left _ _ (by rw [p.len]; exact hi), hu, List.set_cons_zero, List.flatMap_cons]
  | z :: l, k + 1, i, x, y, u, h, hi, hu => by
    have := Pure.put (l := l) (k := k) (by simpa using h) hi hu
    rw [List.flatMap_cons, List.set_append_right _ _ (by rw [p.len, Nat.succ_mul]; omega), p.len, show (k + 1) * R.size + i - R.size = k * R.size + i by rw [Nat.succ_mul]; omega, this, List.set_cons_succ, List.flatMap_cons]

variable {base : Nat} {t : TypeId} {g n c k i : Nat} {x y : E} {u v : Value}
theorem Pure.size (p : Pure R) (l : List E) : (l.flatMap p.cells).length = l.length * R.size := by
  induction l with
  | nil => simp
  | cons y l ih => rw [List.flatMap_cons, List.length_append, p.len, ih, List.length_cons, Nat.succ_mul, Nat.add_comm]
theorem Pure.anyT (p : Pure R) (h : OwnS R w base t T v l) (T' : Nat → Prop) : OwnS R w base t T' v l := by
  obtain ⟨xs, ho, hc⟩ := h
  exact ⟨xs, ho, p.chunks.2 (p.chunks.1 hc)⟩
theorem Pure.own_ok (p : Pure R) (h : OwnS R w base t T v l) : ∀ e ∈ l, p.ok e := by
  obtain ⟨xs, ho, hc⟩ := h
  exact (p.chunks.1 hc).2
theorem Pure.cell (p : Pure R) (h : OwnS R w base t T (.slice (some ⟨g, 0, none⟩) n c) l) (hk : l[k]? = some x) (hu : (p.cells x)[i]? = some u) :
    w.cell? ⟨g, k * R.size + i, none⟩ = some u ∧ w.frozen? ⟨g, k * R.size + i, none⟩ = false := by
  have hn := h.len
  obtain ⟨xs, ho, hc⟩ := h
  obtain ⟨rfl, _⟩ := p.chunks.1 hc
  rw [← hn] at ho
  have hlt := (List.getElem?_eq_some_iff.1 hk).1
  have hi : i < R.size := by rw [← p.len x]; exact (List.getElem?_eq_some_iff.1 hu).1
  refine ⟨?_, ho.frozenAt _⟩
  rw [ho.cellAt (k * R.size + i) ?_, p.at hk hu]
  rw [hn]
  calc k * R.size + i < k * R.size + R.size := by omega
    _ = (k + 1) * R.size := by rw [Nat.succ_mul]
    _ ≤ l.length * R.size := Nat.mul_le_mul_right _ hlt
theorem Pure.set (p : Pure R) (h : OwnS R w base t T (.slice (some ⟨g, 0, none⟩) n c) l) (hk : l[k]? = some x) (hi : i < R.size) (hu : (p.cells x).set i u = p.cells y) (hy : p.ok y) :
    OwnS R (w.setCell ⟨g, k * R.size + i, none⟩ u) base t T (.slice (some ⟨g, 0, none⟩) n c) (l.set k y) := by
  have hn := h.len
  obtain ⟨xs, ho, hc⟩ := h
  obtain ⟨rfl, hb⟩ := p.chunks.1 hc
  refine ⟨(l.set k y).flatMap p.cells, ?_, p.chunks.2 ⟨rfl, fun e he => ?_⟩⟩
  · rw [← hn] at ho
    have := (ho.stored (k * R.size + i) u).1
    rw [List.length_set, ← p.put hk hi hu, ← hn]
    exact this
  · rcases List.mem_or_eq_of_mem_set he with he | rfl
    · exact hb e he
    · exact hy
theorem Pure.sl (p : Pure R) (h : OwnS R w base t T v l) (hS : ∀ k, base ≤ k → S k) : Sl R w S v l := by
  have hb := h.block
  exact OwnS.slT (p.anyT h (fun _ => False)) (fun _ h => h.elim) (fun k hk => hS k (hb k hk).1)
theorem Pure.slS {A : Option Addr} (p : Pure R) (h : Sl R w S (.slice A n c) l) (hS : ∀ b off, A = some ⟨b, off, none⟩ → T b) : Sl R w T (.slice A n c) l := by
  obtain ⟨A', c', hv, h1, h2, h3, h4⟩ := h
  simp only [Value.slice.injEq] at hv
  obtain ⟨rfl, rfl, rfl⟩ := hv
  refine ⟨A, c, rfl, h1, h2, h3, fun hl => ?_⟩
  obtain ⟨b, off, hA, _, hc⟩ := h4 hl
  refine ⟨b, off, hA, hS b off hA, fun k e he => ?_⟩
  obtain ⟨cs, hr, hcs⟩ := hc k e he
  exact ⟨cs, (p.iff _ _ _ _).2 ((p.iff _ _ _ _).1 hr), hcs⟩
end
end Go.Deco
