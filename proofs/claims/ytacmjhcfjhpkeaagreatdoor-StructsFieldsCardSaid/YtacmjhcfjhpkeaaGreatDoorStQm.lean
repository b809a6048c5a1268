/- What the laws of chapter 34 say of layouts, as plain law. No program in sight. -/
import Derived.Test.YtacmjhcfjhpkeaaGreatDoorStrOm
import Derived.Test.YtacmjhcfjhpkeaaGreatDoorSglm
namespace Go.Deco
open Go Go.RowKit
set_option linter.unusedSimpArgs false
set_option linter.unusedVariables false
/-- Layout depends on the set of the accesses alone. -/
theorem layout_set {l m : List Acc} (h : ∀ a, a ∈ l ↔ a ∈ m) (hl : l.length ≤ 1024) (hm : m.length ≤ 1024) : layoutA l = layoutA m := by
 have key : ∀ {l m : List Acc}, (∀ a, a ∈ l ↔ a ∈ m) → (l.all fun a => validA a && decide (a.base = ((l.head?.map Acc.base).getD 0))) = true → (m.all fun a => validA a && decide (a.base = ((m.head?.map Acc.base).getD 0))) = true := by
  intro l m h ha
  rw [List.all_eq_true] at ha ⊢
  intro x hx
  have h1 := ha x ((h x).2 hx)
  rw [Bool.and_eq_true, decide_eq_true_eq] at h1 ⊢
  refine ⟨h1.1, h1.2.trans ?_⟩
  cases m with
  | nil => cases hx
  | cons y m =>
   have h2 := ha y ((h y).2 (List.mem_cons_self ..))
   rw [Bool.and_eq_true, decide_eq_true_eq] at h2
   exact h2.2.symm
 unfold layoutA
 rw [if_neg (by omega : ¬ 1024 < l.length), if_neg (by omega : ¬ 1024 < m.length)]
 cases e : (l.all fun a => validA a && decide (a.base = ((l.head?.map Acc.base).getD 0))) with
 | true =>
  rw [key h e, if_pos rfl, if_pos rfl]
  have hv : ∀ a ∈ l, validA a = true := fun a ha => by
   have := List.all_eq_true.1 e a ha
   rw [Bool.and_eq_true] at this
   exact this.1
  refine arrange_set (fun x hx => ?_) (fun x hx => ?_) fun x => ?_
  ·obtain ⟨a, ha, rfl⟩ := List.mem_map.1 hx
   exact (part_access (hv a ha)).1
  ·obtain ⟨a, ha, rfl⟩ := List.mem_map.1 hx
   exact (leaf_good (part_access (hv a ha)).2.1).2.2
  ·simp only [List.mem_map, h]
 | false =>
  have : (m.all fun a => validA a && decide (a.base = ((m.head?.map Acc.base).getD 0))) = false := by
   cases e2 : (m.all fun a => validA a && decide (a.base = ((m.head?.map Acc.base).getD 0))) with
   | false => rfl
   | true => rw [key (fun a => (h a).symm) e2] at e; cases e
  rw [this]
  rfl
/-- Two elements of a list exchanged. -/
theorem mem_swap {E : Type} {l : List E} {i j : Nat} {x y : E} (hi : l[i]? = some x) (hj : l[j]? = some y) (a : E) : a ∈ (l.set i y).set j x ↔ a ∈ l := by
 have h1 := (List.getElem?_eq_some_iff.1 hi).1
 have h2 := (List.getElem?_eq_some_iff.1 hj).1
 constructor
 ·intro h
  rcases List.mem_or_eq_of_mem_set h with h | rfl
  ·rcases List.mem_or_eq_of_mem_set h with h | rfl
   ·exact h
   ·exact List.mem_of_getElem? hj
  ·exact List.mem_of_getElem? hi
 ·intro h
  obtain ⟨k, hk⟩ := List.getElem?_of_mem h
  by_cases e1 : k = i
  ·subst e1
   rw [hi] at hk
   cases hk
   exact List.mem_of_getElem? (i := j) (by simp [h2])
  ·by_cases e2 : k = j
   ·subst e2
    rw [hj] at hk
    cases hk
    refine List.mem_of_getElem? (i := i) ?_
    rw [List.getElem?_set_ne (fun e => e1 e), List.getElem?_set_self h1]
   ·refine List.mem_of_getElem? (i := k) ?_
    rw [List.getElem?_set_ne (fun e => e2 e.symm), List.getElem?_set_ne (fun e => e1 e.symm), hk]

/-! ### the fields of what was laid -/
theorem layout_ok {l : List Acc} {t : Ty} (h : layoutA l = (t, 0)) : (∀ a ∈ l, validA a = true) ∧ (∀ x ∈ l.map partA, PartL x) ∧ arrangeF (l.map partA) = (t, 0) := by
 unfold layoutA at h
 by_cases h10 : 1024 < l.length
 ·rw [if_pos h10] at h; cases h
 ·rw [if_neg h10] at h
  by_cases hall : (l.all fun a => validA a && decide (a.base = ((l.head?.map Acc.base).getD 0))) = true
  ·rw [if_pos hall] at h
   rw [List.all_eq_true] at hall
   have hv : ∀ x ∈ l, validA x = true := fun x hx => by
    have := hall x hx
    rw [Bool.and_eq_true] at this
    exact this.1
   refine ⟨hv, fun x hx => ?_, h⟩
   obtain ⟨y, hy, rfl⟩ := List.mem_map.1 hx
   exact part_access (hv y hy)
  ·rw [if_neg hall] at h; cases h
theorem layout_err (l : List Acc) : (layoutA l).2 = 0 ∨ (layoutA l).2 = 2 ∨ (layoutA l).2 = 6 := by
 unfold layoutA
 split
 ·exact .inr (.inr rfl)
 ·split
  ·rcases arrange_err (l.map partA) with h | h
   ·exact .inl h
   ·exact .inr (.inr (by rw [h]))
  ·exact .inr (.inl rfl)
theorem layout_laid {l : List Acc} {t : Ty} (h : layoutA l = (t, 0)) : LaidT t := by
 obtain ⟨_, hp, ha⟩ := layout_ok h
 exact arrange_laid hp ha
/-- The end of the field ahead; 0 ahead of the first. -/
def endAt (F : List Fd) (k : Nat) : Int := match F.take k |>.getLast? with | none => 0 | some f => endF f
theorem endAt_zero (F : List Fd) : endAt F 0 = 0 := rfl
theorem endAt_succ {F : List Fd} {k : Nat} {f : Fd} (h : F[k]? = some f) : endAt F (k + 1) = endF f := by
 unfold endAt
 rw [List.take_add_one, h]
 simp
theorem chain_endAt : ∀ {F : List Fd} {n : Int}, ChainF n F → ∀ (k : Nat) (f : Fd), F[k]? = some f → (match F.take k |>.getLast? with | none => n | some g => endF g) ≤ f.1
 | g :: F, n, ⟨h1, h2, h3⟩, 0, f, hf => by
  simp at hf
  subst hf
  exact h1
 | g :: F, n, ⟨h1, h2, h3⟩, k + 1, f, hf => by
  have := chain_endAt h3 k f (by simpa using hf)
  rw [List.take_succ_cons]
  cases e : (F.take k).getLast? with
  | none =>
   rw [e] at this
   have e2 : F.take k = [] := List.getLast?_eq_none_iff.1 e
   rw [e2]
   exact this
  | some x =>
   rw [e] at this
   rw [List.getLast?_cons, e]
   exact this
theorem layout_fields {l : List Acc} {t : Ty} (h : layoutA l = (t, 0)) : chkT t = 0 ∧ (t.kind = 5 ∨ t.kind = 4) ∧ t.fields.length ≤ 64 ∧
  ∀ (k : Nat) (f : Fd), t.fields[k]? = some f → endAt t.fields k ≤ f.1 ∧ endF f ≤ 65536 ∧ 0 ≤ f.1 ∧ ∃ a ∈ l, a.off = f.1 := by
 obtain ⟨hv, hp, ha⟩ := layout_ok h
 have hl := layout_laid h
 refine ⟨laid_good hl, ?_, ?_, ?_⟩
 ·rcases hl with ⟨F, rfl, _⟩ | ⟨x, n, rfl, _⟩
  ·exact .inl rfl
  ·exact .inr rfl
 ·rcases hl with ⟨F, rfl, _, h64, _⟩ | ⟨x, n, rfl, _⟩
  ·exact h64
  ·exact Nat.zero_le _
 ·intro k f hf
  rcases hl with ⟨F, rfl, hc, h64, hr⟩ | ⟨x, n, rfl, _⟩
  ·have hF : fieldsF (l.map partA) = F := by
    change (if 64 < (fieldsF (l.map partA)).length then (Ty.unk, 6) else if rowF (fieldsF (l.map partA)) then (Ty.arr (headF (fieldsF (l.map partA))).2 (fieldsF (l.map partA)).length, 0) else (Ty.str (fieldsF (l.map partA)), 0)) = (Ty.str F, 0) at ha
    split at ha
    ·cases ha
    ·split at ha
     ·have := congrArg (fun x : Ty × Nat => x.1.kind) ha
      simp [Ty.arr, Ty.str, Ty.kind] at this
     ·have := congrArg (fun x : Ty × Nat => x.1.fields) ha
      simpa [Ty.str, Ty.fields] using this
   have hk : F[k]? = some f := hf
   have hm := chain_mem hc f (List.mem_of_getElem? hk)
   refine ⟨chain_endAt hc k f hk, hm.2.2.2, hm.2.1, ?_⟩
   obtain ⟨x, hx, e⟩ := fields_begin (fun x hx => (hp x hx).1) f (by rw [hF]; exact List.mem_of_getElem? hk)
   obtain ⟨a, ha', rfl⟩ := List.mem_map.1 hx
   exact ⟨a, ha', e⟩
  ·simp [Ty.arr, Ty.fields] at hf

/-! ### the accesses that are in conflict -/
def conflFrom (l : List Acc) (i : Nat) : List Nat := ((l.zipIdx.drop i).filterMap fun x => if validA x.1 then some (List.replicate (hitsA l x.1) x.2) else none).flatten
theorem conflFrom_zero (l : List Acc) : conflFrom l 0 = conflA l := by
 unfold conflFrom conflA
 rw [List.drop_zero]
theorem conflFrom_step {l : List Acc} {i : Nat} {a : Acc} (hi : l[i]? = some a) (hv : validA a = true) : conflFrom l i = List.replicate (hitsA l a) i ++ conflFrom l (i + 1) := by
 have hz : l.zipIdx[i]? = some (a, i) := by simp [List.getElem?_zipIdx, hi]
 obtain ⟨h1, h2⟩ := List.getElem?_eq_some_iff.1 hz
 unfold conflFrom
 rw [List.drop_eq_getElem_cons h1, h2, List.filterMap_cons]
 simp only [hv, if_true, List.flatten_cons]
theorem conflFrom_ge (l : List Acc) (i : Nat) : ∀ x ∈ conflFrom l i, i ≤ x := by
 intro x hx
 unfold conflFrom at hx
 obtain ⟨L, hL, hxL⟩ := List.mem_flatten.1 hx
 obtain ⟨y, hy, e⟩ := List.mem_filterMap.1 hL
 obtain ⟨j, hj⟩ := List.getElem?_of_mem hy
 rw [List.getElem?_drop] at hj
 have : y.2 = i + j := by
  rw [List.getElem?_zipIdx] at hj
  cases e2 : l[i + j]? with
  | none => rw [e2] at hj; cases hj
  | some z => rw [e2] at hj; cases hj; simp
 split at e
 ·cases e
  have := List.eq_of_mem_replicate hxL
  omega
 ·cases e
theorem conflFrom_end (l : List Acc) {i : Nat} (h : l.length ≤ i) : conflFrom l i = [] := by
 unfold conflFrom
 rw [List.drop_eq_nil_of_le (by simpa using h)]
 rfl
/-- The step of the search: k stands at the i-th access or behind it. -/
theorem confl_step {l : List Acc} {i k : Nat} {a : Acc} (hi : l[i]? = some a) (hv : validA a = true) (hk : (conflA l).drop k = conflFrom l i) :
  (hitsA l a = 1 → (conflA l)[k]? = some i ∧ (conflA l).drop (k + 1) = conflFrom l (i + 1)) ∧ (hitsA l a = 0 → (∀ x, (conflA l)[k]? = some x → x ≠ i) ∧ (conflA l).drop k = conflFrom l (i + 1)) := by
 rw [conflFrom_step hi hv] at hk
 constructor
 ·intro h
  rw [h] at hk
  have h0 : (conflA l)[k]? = some i := by
   have := congrArg (fun L : List Nat => L[0]?) hk
   simpa using this
  refine ⟨h0, ?_⟩
  have := congrArg (List.drop 1) hk
  rw [List.drop_drop] at this
  simpa using this
 ·intro h
  rw [h] at hk
  refine ⟨fun x hx => ?_, by simpa using hk⟩
  have h0 := congrArg (fun L : List Nat => L[0]?) hk
  simp [hx] at h0
  have := conflFrom_ge l (i + 1) x (List.mem_of_getElem? (i := 0) (by rw [← h0]))
  omega
end Go.Deco
