/- What the laws of chapter 34 say of layouts, as plain law. No program in sight. -/
import Derived.Test.YtacmjhcfjhpkeaaGreatDoorStrOm
import Derived.Test.YtacmjhcfjhpkeaaGreatDoorSglm
namespace Go.Deco
open Go Go.RowKit
set_option linter.unusedSimpArgs false
set_option linter.unusedVariables false
/-! ### the fields of what was laid -/
theorem layout_ok {l : List Acc} {t : Ty} (h : layoutA l = (t, 0)) : (∀ a ∈ l, validA a = true) ∧ (∀ x ∈ l.map partA, PartL x) ∧ arrangeF (l.map partA) = (t, 0) := by
 unfold layoutA at h
 by_cases h10 : 1024 < l.length
 ·rw [if_pos h10] at h; cases h
 ·rw [if_neg h10] at h
  by_cases hall : (l.all fun a => validA a && decide (a.base = ((l.head?.map Acc.base).getD 0))) = true
  ·rw [if_pos hall] at h
   rw [List.all_eq_true] at hall
   have hv : ∀ x ∈ l, validA x = true := fun x hx => by
    have := hall x hx
    rw [Bool.and_eq_true] at this
    exact this.1
   refine ⟨hv, fun x hx => ?_, h⟩
   obtain ⟨y, hy, rfl⟩ := List.mem_map.1 hx
   exact part_access (hv y hy)
  ·rw [if_neg hall] at h; cases h
theorem layout_err (l : List Acc) : (layoutA l).2 = 0 ∨ (layoutA l).2 = 2 ∨ (layoutA l).2 = 6 := by
 unfold layoutA
 split
 ·exact .inr (.inr rfl)
 ·split
  ·rcases arrange_err (l.map partA) with h | h
   ·exact .inl h
   ·exact .inr (.inr (by rw [h]))
  ·exact .inr (.inl rfl)
/-- The end of the field ahead; 0 ahead of the first. -/
def endAt (F : List Fd) (k : Nat) : Int := match F.take k |>.getLast? with | none => 0 | some f => endF f
/-! ### the accesses that are in conflict -/
def conflFrom (l : List Acc) (i : Nat) : List Nat := ((l.zipIdx.drop i).filterMap fun x => if validA x.1 then some (List.replicate (hitsA l x.1) x.2) else none).flatten
theorem conflFrom_zero (l : List Acc) : conflFrom l 0 = conflA l := by
 unfold conflFrom conflA
 rw [List.drop_zero]
theorem conflFrom_step {l : List Acc} {i : Nat} {a : Acc} (hi : l[i]? = some a) (hv : validA a = true) : conflFrom l i = List.replicate (hitsA l a) i ++ conflFrom l (i + 1) := by
 have hz : l.zipIdx[i]? = some (a, i) := by simp [List.getElem?_zipIdx, hi]
 obtain ⟨h1, h2⟩ := List.getElem?_eq_some_iff.1 hz
 unfold conflFrom
 rw [List.drop_eq_getElem_cons h1, h2, List.filterMap_cons]
 simp only [hv, if_true, List.flatten_cons]
theorem conflFrom_ge (l : List Acc) (i : Nat) : ∀ x ∈ conflFrom l i, i ≤ x := by
 intro x hx
 unfold conflFrom at hx
 obtain ⟨L, hL, hxL⟩ := List.mem_flatten.1 hx
 obtain ⟨y, hy, e⟩ := List.mem_filterMap.1 hL
 obtain ⟨j, hj⟩ := List.getElem?_of_mem hy
 rw [List.getElem?_drop] at hj
 have : y.2 = i + j := by
  rw [List.getElem?_zipIdx] at hj
  cases e2 : l[i + j]? with
  | none => rw [e2] at hj; cases hj
  | some z => rw [e2] at hj; cases hj; simp
 split at e
 ·cases e
  have := List.eq_of_mem_replicate hxL
  omega
 ·cases e
theorem conflFrom_end (l : List Acc) {i : Nat} (h : l.length ≤ i) : conflFrom l i = [] := by
 unfold conflFrom
 rw [List.drop_eq_nil_of_le (by simpa using h)]
 rfl
/-- The step of the search: k stands at the i-th access or behind it. -/
theorem confl_step {l : List Acc} {i k : Nat} {a : Acc} (hi : l[i]? = some a) (hv : validA a = true) (hk : (conflA l).drop k = conflFrom l i) :
  (hitsA l a = 1 → (conflA l)[k]? = some i ∧ (conflA l).drop (k + 1) = conflFrom l (i + 1)) ∧ (hitsA l a = 0 → (∀ x, (conflA l)[k]? = some x → x ≠ i) ∧ (conflA l).drop k = conflFrom l (i + 1)) := by
 rw [conflFrom_step hi hv] at hk
 constructor
 ·intro h
  rw [h] at hk
  have h0 : (conflA l)[k]? = some i := by
   have := congrArg (fun L : List Nat => L[0]?) hk
   simpa using this
  refine ⟨h0, ?_⟩
  have := congrArg (List.drop 1) hk
  rw [List.drop_drop] at this
  simpa using this
 ·intro h
  rw [h] at hk
  refine ⟨fun x hx => ?_, by simpa using hk⟩
  have h0 := congrArg (fun L : List Nat => L[0]?) hk
  simp [hx] at h0
  have := conflFrom_ge l (i + 1) x (List.mem_of_getElem? (i := 0) (by rw [← h0]))
  omega
end Go.Deco
