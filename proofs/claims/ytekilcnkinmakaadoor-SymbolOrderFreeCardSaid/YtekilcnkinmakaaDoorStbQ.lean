/- Stable sorting as plain law: one element moved through a list; one element merged; a list cut at two places. -/
import Derived.Test.YtekilcnkinmakaaDoorStbM
namespace Go.Deco
open Go Go.RowKit
set_option linter.unusedSimpArgs false
set_option linter.unusedVariables false
section
variable {α : Type} {lt : α → α → Bool}

/-- x put into O at p. -/
def insP (O : List α) (x : α) (p : Nat) : List α := O.take p ++ (x :: O.drop p)
theorem insP_len (O : List α) (x : α) (p : Nat) : (insP O x p).length = O.length + 1 := by
  unfold insP
  simp
  omega
theorem insP_zero (O : List α) (x : α) : insP O x 0 = x :: O := rfl
theorem insP_all (O : List α) (x : α) : insP O x O.length = O ++ [x] := by simp [insP]
theorem insP_lo {O : List α} {x y : α} {p : Nat} (h : O[p]? = some y) : insP O x p = O.take p ++ (x :: y :: O.drop (p + 1)) := by
  unfold insP
  rw [drop_cons' h]
theorem insP_hi {O : List α} {x y : α} {p : Nat} (h : O[p]? = some y) : insP O x (p + 1) = O.take p ++ (y :: x :: O.drop (p + 1)) := by
  unfold insP
  rw [take_snoc' h, List.append_assoc]
  rfl
theorem two_at (U R : List α) (x y : α) : (U ++ (x :: y :: R))[U.length]? = some x ∧ (U ++ (x :: y :: R))[U.length + 1]? = some y := by
  constructor
  · rw [List.getElem?_append_right (Nat.le_refl _)]; simp
  · rw [List.getElem?_append_right (by omega)]; simp
theorem two_set (U R : List α) (x y : α) : ((U ++ (x :: y :: R)).set U.length y).set (U.length + 1) x = U ++ (y :: x :: R) := by
  rw [List.set_append_right _ _ (Nat.le_refl _), List.set_append_right _ _ (by omega)]
  simp
theorem two_set' (U R : List α) (x y : α) : ((U ++ (x :: y :: R)).set (U.length + 1) x).set U.length y = U ++ (y :: x :: R) := by
  rw [List.set_append_right _ _ (by omega), List.set_append_right _ _ (Nat.le_refl _)]
  simp
/-- The element moves down one place. -/
theorem move_down {P O R : List α} {x y : α} {p : Nat} (h : O[p]? = some y) :
    (P ++ (insP O x (p + 1) ++ R))[P.length + p]? = some y ∧ (P ++ (insP O x (p + 1) ++ R))[P.length + p + 1]? = some x ∧
    ((P ++ (insP O x (p + 1) ++ R)).set (P.length + p + 1) y).set (P.length + p) x = P ++ (insP O x p ++ R) := by
  have hl : p < O.length := (List.getElem?_eq_some_iff.1 h).1
  have e : (P ++ O.take p).length = P.length + p := by rw [List.length_append, List.length_take]; omega
  have e1 : P ++ (insP O x (p + 1) ++ R) = (P ++ O.take p) ++ (y :: x :: (O.drop (p + 1) ++ R)) := by rw [insP_hi h]; simp
  have e2 : P ++ (insP O x p ++ R) = (P ++ O.take p) ++ (x :: y :: (O.drop (p + 1) ++ R)) := by rw [insP_lo h]; simp
  rw [e1, e2, ← e]
  exact ⟨(two_at _ _ _ _).1, (two_at _ _ _ _).2, two_set' _ _ _ _⟩
/-- The element moves up one place. -/
theorem move_up {P O R : List α} {x y : α} {p : Nat} (h : O[p]? = some y) :
    (P ++ (insP O x p ++ R))[P.length + p]? = some x ∧ (P ++ (insP O x p ++ R))[P.length + p + 1]? = some y ∧
    ((P ++ (insP O x p ++ R)).set (P.length + p) y).set (P.length + p + 1) x = P ++ (insP O x (p + 1) ++ R) := by
  have hl : p < O.length := (List.getElem?_eq_some_iff.1 h).1
  have e : (P ++ O.take p).length = P.length + p := by rw [List.length_append, List.length_take]; omega
  have e1 : P ++ (insP O x (p + 1) ++ R) = (P ++ O.take p) ++ (y :: x :: (O.drop (p + 1) ++ R)) := by rw [insP_hi h]; simp
  have e2 : P ++ (insP O x p ++ R) = (P ++ O.take p) ++ (x :: y :: (O.drop (p + 1) ++ R)) := by rw [insP_lo h]; simp
  rw [e1, e2, ← e]
  exact ⟨(two_at _ _ _ _).1, (two_at _ _ _ _).2, two_set _ _ _ _⟩
/-- Where the element is: what stands there, what stands below. -/
theorem insR_insP {O : List α} {x : α} {p : Nat} (W : Weak lt) (hO : Srt lt O) (hp : p ≤ O.length) (hlo : ∀ y, p ≠ 0 → O[p - 1]? = some y → lt x y = false) (hhi : ∀ j, p ≤ j → ∀ y, O[j]? = some y → lt x y = true) : insR lt x O = insP O x p := by
  have hO' := (srt_get O).1 hO
  refine insR_at (fun j hj y hy => ?_) hp (fun y hy => hhi p (Nat.le_refl _) y hy)
  have e : O[p - 1]? = some (O[p - 1]'(by omega)) := List.getElem?_eq_getElem _
  have h1 := hlo _ (by omega) e
  by_cases e1 : j = p - 1
  · subst e1
    rw [e] at hy
    cases hy
    exact h1
  · exact W.trans _ _ _ (hO' j (p - 1) (by omega) _ _ hy e) h1
theorem mrg_one_l (W : Weak lt) {Y : List α} {x : α} {s : Nat} (hY : Srt lt Y) (hs : s ≤ Y.length) (h1 : ∀ y, s ≠ 0 → Y[s - 1]? = some y → lt y x = true) (h2 : ∀ y, Y[s]? = some y → lt y x = false) : mrg lt [x] Y = insP Y x s := by
  rw [split_ok W (List.pairwise_singleton _ _) hY 0 s (by simp) hs (fun a y h0 ha hy => by simp at ha; subst ha; exact h1 y h0 hy) (fun a y h0 => absurd rfl h0)]
  rw [List.take_zero, mrg_nil, List.drop_zero]
  unfold insP
  congr 1
  cases e : Y.drop s with
  | nil => rw [mrg_nil']
  | cons y t =>
    have hy : Y[s]? = some y := by
      have := congrArg (·[0]?) e
      simpa using this
    rw [mrg_cons, if_neg (by rw [h2 y hy]; exact Bool.noConfusion), mrg_nil]
theorem mrg_one_r (W : Weak lt) {X : List α} {y : α} {s : Nat} (hX : Srt lt X) (hs : s ≤ X.length) (h1 : ∀ x, s ≠ 0 → X[s - 1]? = some x → lt y x = false) (h2 : ∀ x, X[s]? = some x → lt y x = true) : mrg lt X [y] = insP X y s := by
  rw [split_ok W hX (List.pairwise_singleton _ _) s 0 hs (by simp) (fun a b h0 => absurd rfl h0) (fun x b h0 hx hb => by simp at hb; subst hb; exact h1 x h0 hx)]
  rw [List.take_zero, mrg_nil', List.drop_zero]
  unfold insP
  congr 1
  cases e : X.drop s with
  | nil => rw [mrg_nil]
  | cons x t =>
    have hx : X[s]? = some x := by
      have := congrArg (·[0]?) e
      simpa using this
    rw [mrg_cons, if_pos (h2 x hx), mrg_nil']
/-- Two parts that lie ahead of the rest exchanged, where the first one is cut. -/
theorem cut2 (l : List α) (k : Nat) : l = l.take k ++ l.drop k := (List.take_append_drop k l).symm
theorem srt_take {l : List α} (h : Srt lt l) (k : Nat) : Srt lt (l.take k) := List.Pairwise.sublist (List.take_sublist k l) h
theorem srt_drop {l : List α} (h : Srt lt l) (k : Nat) : Srt lt (l.drop k) := List.Pairwise.sublist (List.drop_sublist k l) h
/-- Reading a list that is written as parts. -/
theorem part_at (P X R : List α) {k : Nat} (hk : k < X.length) : (P ++ (X ++ R))[P.length + k]? = X[k]? := by
  rw [List.getElem?_append_right (by omega), List.getElem?_append_left (by omega)]
  congr 1
  omega
end
end Go.Deco
