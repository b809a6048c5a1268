/- Stable sorting of symbols: the order of symbols as a weak order; two symbols of an owned row exchanged; when merging may be split. No walk. -/
import Derived.Test.YtekilcnkinmakaaDoorStbL
import Derived.Test.YtekilcnkinmakaaDoorSymM
import Derived.Test.YtekilcnkinmakaaDoorHdr
namespace Go.Deco
open Go Go.RowKit
set_option linter.unusedSimpArgs false
set_option linter.unusedVariables false

theorem sym_swap {w : World} {base g n c i j : Nat} {t : TypeId} {T : Nat → Prop} {l : List Sy} {x y : Sy} (h : OwnS symR w base t T (.slice (some ⟨g, 0, none⟩) n c) l) (hi : l[i]? = some y) (hj : l[j]? = some x) (hne : i ≠ j) :
    OwnS symR ((((((w.setCell ⟨g, i * 3, none⟩ (.string x.name)).setCell ⟨g, i * 3 + 1, none⟩ (.int .u32 x.addr)).setCell ⟨g, i * 3 + 2, none⟩ (.int .i64 x.kind)).setCell ⟨g, j * 3, none⟩ (.string y.name)).setCell ⟨g, j * 3 + 1, none⟩ (.int .u32 y.addr)).setCell ⟨g, j * 3 + 2, none⟩ (.int .i64 y.kind)) base t T (.slice (some ⟨g, 0, none⟩) n c) ((l.set i x).set j y) := by
  have hx := symP.own_ok h x (List.mem_of_getElem? hj)
  have hy := symP.own_ok h y (List.mem_of_getElem? hi)
  have hil := (List.getElem?_eq_some_iff.1 hi).1
  have hjl := (List.getElem?_eq_some_iff.1 hj).1
  have h1 := symP.set (y := ⟨x.name, y.addr, y.kind⟩) h hi (i := 0) (u := .string x.name) (by simp [symR]) rfl ⟨hy.1, hx.2.1, hy.2.2⟩
  have h2 := symP.set (x := ⟨x.name, y.addr, y.kind⟩) (y := ⟨x.name, x.addr, y.kind⟩) h1 (by rw [List.getElem?_set_self hil]) (i := 1) (u := .int .u32 x.addr) (by simp [symR]) rfl ⟨hx.1, hx.2.1, hy.2.2⟩
  have h3 := symP.set (x := ⟨x.name, x.addr, y.kind⟩) (y := x) h2 (by rw [List.getElem?_set_self (by simpa using hil)]) (i := 2) (u := .int .i64 x.kind) (by simp [symR]) rfl hx
  rw [List.set_set, List.set_set] at h3
  have hj2 : (l.set i x)[j]? = some x := by rw [List.getElem?_set_ne hne]; exact hj
  have hjl2 : j < (l.set i x).length := by simpa using hjl
  have h4 := symP.set (y := ⟨y.name, x.addr, x.kind⟩) h3 hj2 (i := 0) (u := .string y.name) (by simp [symR]) rfl ⟨hx.1, hy.2.1, hx.2.2⟩
  have h5 := symP.set (x := ⟨y.name, x.addr, x.kind⟩) (y := ⟨y.name, y.addr, x.kind⟩) h4 (by rw [List.getElem?_set_self hjl2]) (i := 1) (u := .int .u32 y.addr) (by simp [symR]) rfl ⟨hy.1, hy.2.1, hx.2.2⟩
  have h6 := symP.set (x := ⟨y.name, y.addr, x.kind⟩) (y := y) h5 (by rw [List.getElem?_set_self (by simpa using hjl2)]) (i := 2) (u := .int .i64 y.kind) (by simp [symR]) rfl hy
  rw [List.set_set, List.set_set] at h6
  exact h6
/-- One symbol of an owned row written. -/
theorem sym_put {w : World} {base g n c i : Nat} {t : TypeId} {T : Nat → Prop} {l : List Sy} {x y : Sy} (h : OwnS symR w base t T (.slice (some ⟨g, 0, none⟩) n c) l) (hi : l[i]? = some y) (hx : symP.ok x) :
    OwnS symR (((w.setCell ⟨g, i * 3, none⟩ (.string x.name)).setCell ⟨g, i * 3 + 1, none⟩ (.int .u32 x.addr)).setCell ⟨g, i * 3 + 2, none⟩ (.int .i64 x.kind)) base t T (.slice (some ⟨g, 0, none⟩) n c) (l.set i x) := by
  have hy := symP.own_ok h y (List.mem_of_getElem? hi)
  have hil := (List.getElem?_eq_some_iff.1 hi).1
  have h1 := symP.set (y := ⟨x.name, y.addr, y.kind⟩) h hi (i := 0) (u := .string x.name) (by simp [symR]) rfl ⟨hy.1, hx.2.1, hy.2.2⟩
  have h2 := symP.set (x := ⟨x.name, y.addr, y.kind⟩) (y := ⟨x.name, x.addr, y.kind⟩) h1 (by rw [List.getElem?_set_self hil]) (i := 1) (u := .int .u32 x.addr) (by simp [symR]) rfl ⟨hx.1, hx.2.1, hy.2.2⟩
  have h3 := symP.set (x := ⟨x.name, x.addr, y.kind⟩) (y := x) h2 (by rw [List.getElem?_set_self (by simpa using hil)]) (i := 2) (u := .int .i64 x.kind) (by simp [symR]) rfl hx
  rw [List.set_set, List.set_set] at h3
  exact h3
/-- A symbol of an owned row: its cells, none of them frozen. -/
theorem sym_cells {w : World} {base g n c k : Nat} {t : TypeId} {T : Nat → Prop} {l : List Sy} {x : Sy} (h : OwnS symR w base t T (.slice (some ⟨g, 0, none⟩) n c) l) (hk : l[k]? = some x) :
    (w.cell? ⟨g, k * 3, none⟩ = some (.string x.name) ∧ w.cell? ⟨g, k * 3 + 1, none⟩ = some (.int .u32 x.addr) ∧ w.cell? ⟨g, k * 3 + 2, none⟩ = some (.int .i64 x.kind)) ∧ w.frozen? ⟨g, k * 3, none⟩ = false ∧ w.frozen? ⟨g, k * 3 + 1, none⟩ = false ∧ w.frozen? ⟨g, k * 3 + 2, none⟩ = false := by
  have h0 := symP.cell h hk (i := 0) (u := .string x.name) rfl
  have h1 := symP.cell h hk (i := 1) (u := .int .u32 x.addr) rfl
  have h2 := symP.cell h hk (i := 2) (u := .int .i64 x.kind) rfl
  exact ⟨⟨h0.1, h1.1, h2.1⟩, h0.2, h1.2, h2.2⟩

/-- 'symbol s is ahead of symbol t'. -/
def ltS (s t : Sy) : Bool := decide (cmpS s t < 0)
theorem ltS_iff {s t : Sy} : ltS s t = true ↔ s.addr < t.addr ∨ (s.addr = t.addr ∧ ltK s.key t.key = true) := by
  unfold ltS
  rw [decide_eq_true_iff]
  unfold cmpS cmpN
  by_cases h1 : s.addr < t.addr
  · simp [h1]
  · by_cases h2 : t.addr < s.addr
    · have h3 : ¬ s.addr = t.addr := by omega
      simp [h1, h2, h3]
    · have h3 : s.addr = t.addr := by omega
      have h4 := cmpK_lt s.key t.key
      simp only [h3, Nat.lt_irrefl, if_false, ne_eq, not_true, false_or, true_and]
      rw [← h4]
      simp
theorem weakS : Weak ltS := by
  have hasym : ∀ a b, ltK a b = true → ltK b a = false := fun a b h => by
    rw [ltK, bytesLess_lt, decide_eq_true_iff] at h
    rw [ltK, bytesLess_lt, decide_eq_false_iff_not]
    exact List.lt_asymm h
  have htrans : ∀ a b c, ltK b a = false → ltK c b = false → ltK c a = false := fun a b c h k => by
    rw [ltK, bytesLess_lt, decide_eq_false_iff_not, List.not_lt] at *
    exact List.le_trans h k
  have hf : ∀ {s t : Sy}, ltS s t = false ↔ t.addr < s.addr ∨ (s.addr = t.addr ∧ ltK s.key t.key = false) := by
    intro s t
    rw [← Bool.not_eq_true, ltS_iff]
    cases h : ltK s.key t.key <;> simp [h] <;> omega
  constructor
  · intro x y h
    rcases ltS_iff.1 h with h | ⟨h, k⟩
    · exact hf.2 (.inl h)
    · exact hf.2 (.inr ⟨h.symm, hasym _ _ k⟩)
  · intro x y z h k
    rw [hf] at h k ⊢
    rcases h with h | ⟨h, h'⟩ <;> rcases k with k | ⟨k, k'⟩
    · exact .inl (by omega)
    · exact .inl (by omega)
    · exact .inl (by omega)
    · exact .inr ⟨by omega, htrans _ _ _ h' k'⟩

section
variable {α : Type} {lt : α → α → Bool}
theorem srt_get (l : List α) : Srt lt l ↔ ∀ i j : Nat, i < j → ∀ x y, l[i]? = some x → l[j]? = some y → lt y x = false := by
  unfold Srt
  rw [List.pairwise_iff_getElem]
  constructor
  · intro h i j hij x y hx hy
    obtain ⟨h1, rfl⟩ := List.getElem?_eq_some_iff.1 hx
    obtain ⟨h2, rfl⟩ := List.getElem?_eq_some_iff.1 hy
    exact h i j h1 h2 hij
  · intro h i j hi hj hij
    exact h i j hij _ _ (List.getElem?_eq_getElem hi) (List.getElem?_eq_getElem hj)
/-- The parts of two sorted lists that a search by halves has found: what is merged ahead, what is merged behind. -/
theorem split_ok (W : Weak lt) {X Y : List α} (hX : Srt lt X) (hY : Srt lt Y) (i j : Nat) (hi : i ≤ X.length) (hj : j ≤ Y.length)
    (hA : ∀ x y, j ≠ 0 → X[i]? = some x → Y[j - 1]? = some y → lt y x = true) (hB : ∀ x y, i ≠ 0 → X[i - 1]? = some x → Y[j]? = some y → lt y x = false) :
    mrg lt X Y = mrg lt (X.take i) (Y.take j) ++ mrg lt (X.drop i) (Y.drop j) := by
  have hX' := (srt_get X).1 hX
  have hY' := (srt_get Y).1 hY
  rw [← mrg_split _ (Nat.le_refl _), List.take_append_drop, List.take_append_drop]
  · intro r hr l hl
    obtain ⟨p, hp, rfl⟩ := List.mem_take_iff_getElem.1 hr
    obtain ⟨q, hq, rfl⟩ := List.getElem_of_mem hl
    rw [List.length_drop] at hq
    have hj0 : j ≠ 0 := by omega
    have e1 : X[i]? = some (X[i]'(by omega)) := List.getElem?_eq_getElem _
    have e2 : Y[j - 1]? = some (Y[j - 1]'(by omega)) := List.getElem?_eq_getElem _
    have h1 := hA _ _ hj0 e1 e2
    rw [List.getElem_drop]
    have h2 : lt (Y[j - 1]'(by omega)) (Y[p]'(by omega)) = false := by
      by_cases e : p = j - 1
      · subst e; exact W.irr _
      · exact hY' p (j - 1) (by omega) _ _ (List.getElem?_eq_getElem _) e2
    have h3 : lt (X[i + q]'(by omega)) (X[i]'(by omega)) = false := by
      by_cases e : q = 0
      · subst e; exact W.irr _
      · exact hX' i (i + q) (by omega) _ _ e1 (List.getElem?_eq_getElem _)
    exact W.lt_le (W.le_lt h2 h1) h3
  · intro l hl r hr
    obtain ⟨p, hp, rfl⟩ := List.mem_take_iff_getElem.1 hl
    obtain ⟨q, hq, rfl⟩ := List.getElem_of_mem hr
    rw [List.length_drop] at hq
    have hi0 : i ≠ 0 := by omega
    have e1 : X[i - 1]? = some (X[i - 1]'(by omega)) := List.getElem?_eq_getElem _
    have e2 : Y[j]? = some (Y[j]'(by omega)) := List.getElem?_eq_getElem _
    have h1 := hB _ _ hi0 e1 e2
    rw [List.getElem_drop]
    have h2 : lt (X[i - 1]'(by omega)) (X[p]'(by omega)) = false := by
      by_cases e : p = i - 1
      · subst e; exact W.irr _
      · exact hX' p (i - 1) (by omega) _ _ (List.getElem?_eq_getElem _) e1
    have h3 : lt (Y[j + q]'(by omega)) (Y[j]'(by omega)) = false := by
      by_cases e : q = 0
      · subst e; exact W.irr _
      · exact hY' j (j + q) (by omega) _ _ e2 (List.getElem?_eq_getElem _)
    exact W.trans _ _ _ (W.trans _ _ _ h2 h1) h3
end
end Go.Deco
