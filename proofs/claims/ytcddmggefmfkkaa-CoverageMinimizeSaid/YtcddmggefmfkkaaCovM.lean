/- The minimizer's steps, as plain law. No walk. -/
import Derived.Test.YtcddmggefmfkkaaCovL
namespace Go.Proofs.Ytcddmggefmfkkaa
open Go.RowKit Go.Deco
set_option linter.unusedVariables false

section
variable {P : List Nat → Bool} {L : List Nat} {left k m x : Nat}
theorem delM_end (h : L.length ≤ k ∨ left = 0) : delM P L left k = (L, left) := by
  cases left with
  | zero => rw [delM]
  | succ m =>
    rw [delM, if_neg]
    rcases h with h | h <;> omega
theorem delM_yes (hk : k < L.length) (hp : P (L.eraseIdx k) = true) : delM P L (m + 1) k = delM P (L.eraseIdx k) m k := by rw [delM, if_pos hk, if_pos hp]
theorem delM_no (hk : k < L.length) (hp : P (L.eraseIdx k) = false) : delM P L (m + 1) k = delM P L m (k + 1) := by
  rw [delM, if_pos hk, if_neg]
  rw [hp]
  simp
theorem redM_end : redM P m L 0 k = (L, 0) := by
  cases m with
  | zero => rw [redM]
  | succ m => rw [redM, if_pos rfl]
theorem redM_step (h : 0 < left) : redM P (m + 1) L left k = redM P m (redK P L left k).1 (redK P L left k).2 (k + 1) := by rw [redM, if_neg (by omega)]
theorem redK_zero (h : L[k]? = some 0) : redK P L left k = (L, left) := by simp [redK, h]
theorem redK_hit (h : L[k]? = some x) (h0 : x ≠ 0) (hp : P (L.set k 0) = true) : redK P L left k = (L.set k 0, left - 1) := by simp [redK, h, h0, hp]
theorem redK_one (h : L[k]? = some x) (h0 : x ≠ 0) (hp : P (L.set k 0) = false) (h1 : x ≤ 1) : redK P L left k = (L, left - 1) := by simp [redK, h, h0, hp, h1]
theorem redK_out (h : L[k]? = some x) (h0 : x ≠ 0) (hp : P (L.set k 0) = false) (h1 : ¬ x ≤ 1) (hl : left - 1 = 0) : redK P L left k = (L, 0) := by simp [redK, h, h0, hp, h1, hl]
theorem redK_half (h : L[k]? = some x) (h0 : x ≠ 0) (hp : P (L.set k 0) = false) (h1 : ¬ x ≤ 1) (hl : left - 1 ≠ 0) (hq : P (L.set k (x / 2)) = true) : redK P L left k = (L.set k (x / 2), left - 2) := by simp [redK, h, h0, hp, h1, hl, hq]
theorem redK_miss (h : L[k]? = some x) (h0 : x ≠ 0) (hp : P (L.set k 0) = false) (h1 : ¬ x ≤ 1) (hl : left - 1 ≠ 0) (hq : P (L.set k (x / 2)) = false) : redK P L left k = (L, left - 2) := by simp [redK, h, h0, hp, h1, hl, hq]
theorem roundM_zero : roundM P L 0 = (L, 0) := by rw [roundM, delM_end (.inr rfl), redM_end]
theorem minM_zero {f : Nat} : minM P f L 0 = (L, 0) := by
  cases f with
  | zero => rw [minM]
  | succ f => rw [minM, roundM_zero, if_pos rfl]
theorem minM_same {f : Nat} (h : (roundM P L left).1 = L) : minM P (f + 1) L left = roundM P L left := by rw [minM, if_pos h]
theorem minM_go {f : Nat} (h : (roundM P L left).1 ≠ L) : minM P (f + 1) L left = minM P f (roundM P L left).1 (roundM P L left).2 := by
  rw [minM, if_neg h]
  split
  · rename_i h2
    rw [h2, minM_zero, ← h2]
  · rfl
end

/-- What has turned since a round's start. -/
structure Chg (R0 : List Nat) (left0 : Nat) (ch : Bool) (M : List Nat) (left : Nat) : Prop where
  le : left ≤ left0
  len : M.length ≤ R0.length
  no : ch = false → M = R0
  yes : ch = true → wtM M < wtM R0 ∧ left < left0
theorem Chg.start (R0 : List Nat) (left0 : Nat) : Chg R0 left0 false R0 left0 := ⟨Nat.le_refl _, Nat.le_refl _, fun _ => rfl, fun h => (by cases h)⟩
theorem Chg.fail {R0 M : List Nat} {left0 left left' : Nat} {ch : Bool} (h : Chg R0 left0 ch M left) (hl : left' ≤ left) : Chg R0 left0 ch M left' :=
  ⟨Nat.le_trans hl h.le, h.len, h.no, fun e => ⟨(h.yes e).1, Nat.lt_of_le_of_lt hl (h.yes e).2⟩⟩
theorem Chg.hit {R0 M M' : List Nat} {left0 left left' : Nat} {ch : Bool} (h : Chg R0 left0 ch M left) (hl : left' < left) (hw : wtM M' < wtM M) (hn : M'.length ≤ M.length) : Chg R0 left0 true M' left' :=
  ⟨by have := h.le; omega, Nat.le_trans hn h.len, fun e => (by cases e), fun _ => ⟨by
    cases ch with
    | false => rw [h.no rfl] at hw; exact hw
    | true => have := (h.yes rfl).1; omega, by have := h.le; omega⟩⟩
theorem Chg.ne {R0 M : List Nat} {left0 left : Nat} (h : Chg R0 left0 true M left) : M ≠ R0 := fun e => by
  have := (h.yes rfl).1
  rw [e] at this
  omega
end Go.Proofs.Ytcddmggefmfkkaa
