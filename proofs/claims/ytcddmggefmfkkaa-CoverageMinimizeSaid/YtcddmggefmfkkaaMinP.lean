/- The minimizer as plain law: what a round lowers, where it stops, and what then holds. No walk. -/
import Derived.Test.YtcddmggefmfkkaaCovM
namespace Go.Proofs.Ytcddmggefmfkkaa
open Go.RowKit Go.Deco
set_option linter.unusedVariables false

section
variable {P : List Nat → Bool} {R0 L M : List Nat} {left0 left k m x : Nat} {ch : Bool}
theorem delM_chg : ∀ (left : Nat) (M : List Nat) (k : Nat) (ch : Bool), Chg R0 left0 ch M left → ∃ ch', Chg R0 left0 ch' (delM P M left k).1 (delM P M left k).2
  | 0, M, k, ch, h => ⟨ch, by rw [delM_end (.inr rfl)]; exact h⟩
  | m + 1, M, k, ch, h => by
    by_cases hk : k < M.length
    · cases hp : P (M.eraseIdx k) with
      | true =>
        rw [delM_yes hk hp]
        exact delM_chg m _ k true (h.hit (by omega) (wt_erase hk) (by rw [List.length_eraseIdx_of_lt hk]; omega))
      | false =>
        rw [delM_no hk hp]
        exact delM_chg m _ (k + 1) ch (h.fail (by omega))
    · rw [delM_end (.inl (by omega))]
      exact ⟨ch, h⟩
theorem redK_chg (h : Chg R0 left0 ch M left) (h0 : 0 < left) (hk : k < M.length) : ∃ ch', Chg R0 left0 ch' (redK P M left k).1 (redK P M left k).2 ∧ (redK P M left k).1.length = M.length := by
  obtain ⟨x, hx⟩ : ∃ x, M[k]? = some x := ⟨_, List.getElem?_eq_getElem hk⟩
  by_cases hx0 : x = 0
  · subst hx0
    rw [redK_zero hx]
    exact ⟨ch, h, rfl⟩
  cases hp : P (M.set k 0) with
  | true =>
    rw [redK_hit hx hx0 hp]
    exact ⟨true, h.hit (by show left - 1 < left; omega) (wt_set hx (by omega)) (by simp), by simp⟩
  | false =>
    by_cases hx1 : x ≤ 1
    · rw [redK_one hx hx0 hp hx1]
      exact ⟨ch, h.fail (by show left - 1 ≤ left; omega), rfl⟩
    by_cases hl : left - 1 = 0
    · rw [redK_out hx hx0 hp hx1 hl]
      exact ⟨ch, h.fail (by show 0 ≤ left; omega), rfl⟩
    cases hq : P (M.set k (x / 2)) with
    | true =>
      rw [redK_half hx hx0 hp hx1 hl hq]
      exact ⟨true, h.hit (by show left - 2 < left; omega) (wt_set hx (by omega)) (by simp), by simp⟩
    | false =>
      rw [redK_miss hx hx0 hp hx1 hl hq]
      exact ⟨ch, h.fail (by show left - 2 ≤ left; omega), rfl⟩
theorem redM_chg : ∀ (m : Nat) (M : List Nat) (left k : Nat) (ch : Bool), Chg R0 left0 ch M left → k + m ≤ M.length → ∃ ch', Chg R0 left0 ch' (redM P m M left k).1 (redM P m M left k).2
  | 0, M, left, k, ch, h, _ => ⟨ch, by rw [redM]; exact h⟩
  | m + 1, M, left, k, ch, h, hk => by
    by_cases h0 : left = 0
    · subst h0
      rw [redM_end]
      exact ⟨ch, h⟩
    · rw [redM_step (by omega)]
      obtain ⟨ch', h1, h2⟩ := redK_chg (P := P) h (by omega) (k := k) (by omega)
      exact redM_chg m _ _ (k + 1) ch' h1 (by rw [h2]; omega)
theorem roundM_chg (P : List Nat → Bool) (L : List Nat) (left : Nat) : ∃ ch, Chg L left ch (roundM P L left).1 (roundM P L left).2 := by
  obtain ⟨ch, h⟩ := delM_chg (P := P) left L 0 false (Chg.start L left)
  exact redM_chg _ _ _ 0 ch h (by omega)
theorem roundM_less (h : (roundM P L left).1 ≠ L) : (roundM P L left).2 < left := by
  obtain ⟨ch, hc⟩ := roundM_chg P L left
  cases ch with
  | false => exact absurd (hc.no rfl) h
  | true => exact (hc.yes rfl).2
theorem roundM_le (P : List Nat → Bool) (L : List Nat) (left : Nat) : (roundM P L left).2 ≤ left ∧ (roundM P L left).1.length ≤ L.length := by
  obtain ⟨ch, hc⟩ := roundM_chg P L left
  exact ⟨hc.le, hc.len⟩

/-! ### the result fails -/
theorem delM_P : ∀ (left : Nat) (M : List Nat) (k : Nat), P M = true → P (delM P M left k).1 = true
  | 0, M, k, h => by rw [delM_end (.inr rfl)]; exact h
  | m + 1, M, k, h => by
    by_cases hk : k < M.length
    · cases hp : P (M.eraseIdx k) with
      | true => rw [delM_yes hk hp]; exact delM_P m _ k hp
      | false => rw [delM_no hk hp]; exact delM_P m _ (k + 1) h
    · rw [delM_end (.inl (by omega))]; exact h
theorem redK_P (h : P M = true) (hk : k < M.length) : P (redK P M left k).1 = true ∧ (redK P M left k).1.length = M.length := by
  obtain ⟨x, hx⟩ : ∃ x, M[k]? = some x := ⟨_, List.getElem?_eq_getElem hk⟩
  by_cases hx0 : x = 0
  · subst hx0; rw [redK_zero hx]; exact ⟨h, rfl⟩
  cases hp : P (M.set k 0) with
  | true => rw [redK_hit hx hx0 hp]; exact ⟨hp, by simp⟩
  | false =>
    by_cases hx1 : x ≤ 1
    · rw [redK_one hx hx0 hp hx1]; exact ⟨h, rfl⟩
    by_cases hl : left - 1 = 0
    · rw [redK_out hx hx0 hp hx1 hl]; exact ⟨h, rfl⟩
    cases hq : P (M.set k (x / 2)) with
    | true => rw [redK_half hx hx0 hp hx1 hl hq]; exact ⟨hq, by simp⟩
    | false => rw [redK_miss hx hx0 hp hx1 hl hq]; exact ⟨h, rfl⟩
theorem redM_P : ∀ (m : Nat) (M : List Nat) (left k : Nat), P M = true → k + m ≤ M.length → P (redM P m M left k).1 = true
  | 0, M, left, k, h, _ => by rw [redM]; exact h
  | m + 1, M, left, k, h, hk => by
    by_cases h0 : left = 0
    · subst h0; rw [redM_end]; exact h
    · rw [redM_step (by omega)]
      obtain ⟨h1, h2⟩ := redK_P (left := left) h (k := k) (by omega)
      exact redM_P m _ _ (k + 1) h1 (by rw [h2]; omega)
theorem roundM_P (h : P L = true) : P (roundM P L left).1 = true := redM_P _ _ _ _ (delM_P left L 0 h) (by omega)
theorem minM_P : ∀ (f : Nat) (L : List Nat) (left : Nat), P L = true → P (minM P f L left).1 = true
  | 0, L, left, h => by rw [minM]; exact h
  | f + 1, L, left, h => by
    by_cases e : (roundM P L left).1 = L
    · rw [minM_same e, e]; exact h
    · rw [minM_go e]; exact minM_P f _ _ (roundM_P h)
theorem minM_le : ∀ (f : Nat) (L : List Nat) (left : Nat), (minM P f L left).2 ≤ left ∧ (minM P f L left).1.length ≤ L.length
  | 0, L, left => by rw [minM]; exact ⟨Nat.le_refl _, Nat.le_refl _⟩
  | f + 1, L, left => by
    have h := roundM_le P L left
    by_cases e : (roundM P L left).1 = L
    · rw [minM_same e]; exact h
    · rw [minM_go e]
      have h2 := minM_le f (roundM P L left).1 (roundM P L left).2
      omega

/-! ### a round that turns nothing -/
/-- Nothing can be taken away or lowered. -/
def Stuck (P : List Nat → Bool) (M : List Nat) : Prop :=
  ∀ k, k < M.length → P (M.eraseIdx k) = false ∧ ∀ x, M[k]? = some x → x ≠ 0 → P (M.set k 0) = false ∧ (¬ x ≤ 1 → P (M.set k (x / 2)) = false)
theorem delM_stuck (h : Stuck P M) : ∀ (left k : Nat), (delM P M left k).1 = M
  | 0, k => by rw [delM_end (.inr rfl)]
  | m + 1, k => by
    by_cases hk : k < M.length
    · rw [delM_no hk (h k hk).1]; exact delM_stuck h m (k + 1)
    · rw [delM_end (.inl (by omega))]
theorem redK_stuck (h : Stuck P M) (hk : k < M.length) : (redK P M left k).1 = M := by
  obtain ⟨x, hx⟩ : ∃ x, M[k]? = some x := ⟨_, List.getElem?_eq_getElem hk⟩
  by_cases hx0 : x = 0
  · subst hx0; rw [redK_zero hx]
  have h1 := (h k hk).2 x hx hx0
  by_cases hx1 : x ≤ 1
  · rw [redK_one hx hx0 h1.1 hx1]
  by_cases hl : left - 1 = 0
  · rw [redK_out hx hx0 h1.1 hx1 hl]
  · rw [redK_miss hx hx0 h1.1 hx1 hl (h1.2 hx1)]
theorem redM_stuck (h : Stuck P M) : ∀ (m left k : Nat), k + m ≤ M.length → (redM P m M left k).1 = M
  | 0, left, k, _ => by rw [redM]
  | m + 1, left, k, hk => by
    by_cases h0 : left = 0
    · subst h0; rw [redM_end]
    · rw [redM_step (by omega), redK_stuck h (by omega)]
      exact redM_stuck h m _ (k + 1) (by omega)
theorem roundM_stuck (h : Stuck P M) (left : Nat) : (roundM P M left).1 = M := by
  rw [roundM, delM_stuck h]
  exact redM_stuck h _ _ 0 (by omega)

theorem delM_keep : ∀ (left k : Nat), (delM P M left k).1 = M → 0 < (delM P M left k).2 → ∀ j, k ≤ j → j < M.length → P (M.eraseIdx j) = false
  | 0, k, _, h2, j, _, hj => by rw [delM_end (.inr rfl)] at h2; exact absurd h2 (by simp)
  | m + 1, k, h1, h2, j, hkj, hj => by
    have hk : k < M.length := by omega
    cases hp : P (M.eraseIdx k) with
    | true =>
      rw [delM_yes hk hp] at h1
      obtain ⟨ch, hc⟩ := delM_chg (P := P) (R0 := M) (left0 := m + 1) m (M.eraseIdx k) k true ((Chg.start M (m + 1)).hit (by omega) (wt_erase hk) (by rw [List.length_eraseIdx_of_lt hk]; omega))
      have hw : wtM (delM P (M.eraseIdx k) m k).1 ≤ wtM (M.eraseIdx k) := by
        obtain ⟨ch2, hc2⟩ := delM_chg (P := P) (R0 := M.eraseIdx k) (left0 := m) m (M.eraseIdx k) k false (Chg.start _ _)
        cases ch2 with
        | false => rw [hc2.no rfl]; exact Nat.le_refl _
        | true => exact Nat.le_of_lt (hc2.yes rfl).1
      rw [h1] at hw
      have := wt_erase (L := M) hk
      omega
    | false =>
      rw [delM_no hk hp] at h1 h2
      by_cases e : j = k
      · rw [e]; exact hp
      · exact delM_keep m (k + 1) h1 h2 j (by omega) hj
theorem wt_le {ch : Bool} (h : Chg R0 left0 ch M left) : wtM M ≤ wtM R0 := by
  cases ch with
  | false => rw [h.no rfl]; exact Nat.le_refl _
  | true => exact Nat.le_of_lt (h.yes rfl).1
theorem redM_keep : ∀ (m left k : Nat), k + m = M.length → (redM P m M left k).1 = M → 0 < (redM P m M left k).2 → ∀ j, k ≤ j → j < M.length → ∀ x, M[j]? = some x → x ≠ 0 → P (M.set j 0) = false ∧ (¬ x ≤ 1 → P (M.set j (x / 2)) = false)
  | 0, left, k, hk, _, _, j, hkj, hj, _, _, _ => by omega
  | m + 1, left, k, hk, h1, h2, j, hkj, hj, x, hx, hx0 => by
    have h0 : 0 < left := by
      rcases Nat.eq_zero_or_pos left with h | h
      · subst h; rw [redM_end] at h2; exact absurd h2 (by simp)
      · exact h
    rw [redM_step h0] at h1 h2
    obtain ⟨ch, hc, hlen⟩ := redK_chg (P := P) (k := k) (Chg.start M left) h0 (by omega)
    have hsame : (redK P M left k).1 = M := by
      cases ch with
      | false => exact hc.no rfl
      | true =>
        obtain ⟨ch2, hc2⟩ := redM_chg (P := P) m (redK P M left k).1 (redK P M left k).2 (k + 1) false (Chg.start _ _) (by rw [hlen]; omega)
        have h3 := wt_le hc2
        rw [h1] at h3
        have := (hc.yes rfl).1
        omega
    rw [hsame] at h1 h2
    by_cases e : j = k
    · subst e
      cases hp : P (M.set j 0) with
      | true =>
        rw [redK_hit hx hx0 hp] at hsame
        have h3 := wt_set (y := 0) hx (by omega)
        rw [show M.set j 0 = M from hsame] at h3
        omega
      | false =>
        refine ⟨rfl, fun hx1 => ?_⟩
        by_cases hl : left - 1 = 0
        · rw [redK_out hx hx0 hp hx1 hl] at h2
          rw [redM_end] at h2
          exact absurd h2 (by simp)
        · cases hq : P (M.set j (x / 2)) with
          | true =>
            rw [redK_half hx hx0 hp hx1 hl hq] at hsame
            have h3 := wt_set (y := x / 2) hx (by omega)
            rw [show M.set j (x / 2) = M from hsame] at h3
            omega
          | false => rfl
    · exact redM_keep m _ (k + 1) (by omega) h1 h2 j (by omega) hj x hx hx0
theorem roundM_keep (h1 : (roundM P M left).1 = M) (h2 : 0 < (roundM P M left).2) : Stuck P M := by
  obtain ⟨ch, hc⟩ := delM_chg (P := P) left M 0 false (Chg.start M left)
  obtain ⟨ch2, hc2⟩ := redM_chg (P := P) (delM P M left 0).1.length (delM P M left 0).1 (delM P M left 0).2 0 false (Chg.start _ _) (by omega)
  have hd : (delM P M left 0).1 = M := by
    cases ch with
    | false => exact hc.no rfl
    | true =>
      have h3 := wt_le hc2
      rw [show redM P (delM P M left 0).1.length (delM P M left 0).1 (delM P M left 0).2 0 = roundM P M left from rfl, h1] at h3
      have := (hc.yes rfl).1
      omega
  rw [roundM, hd] at h1 h2
  have hdl : 0 < (delM P M left 0).2 := by
    rcases Nat.eq_zero_or_pos (delM P M left 0).2 with h | h
    · rw [h, redM_end] at h2; exact absurd h2 (by simp)
    · exact h
  intro k hk
  exact ⟨delM_keep left 0 hd hdl k (by omega) hk, redM_keep _ _ 0 (by omega) h1 h2 k (by omega) hk⟩
/-- Where calls are left, the result is stuck. -/
theorem minM_stuck : ∀ (f : Nat) (L : List Nat) (left : Nat), left ≤ f → 0 < (minM P f L left).2 → Stuck P (minM P f L left).1
  | 0, L, left, hf, h => by
    rw [minM] at h
    exact absurd h (by simp; omega)
  | f + 1, L, left, hf, h => by
    by_cases e : (roundM P L left).1 = L
    · rw [minM_same e] at h ⊢
      rw [e]
      exact roundM_keep e h
    · rw [minM_go e] at h ⊢
      exact minM_stuck f _ _ (by have := roundM_less e; omega) h
theorem minM_again (h : Stuck P M) (f : Nat) (left : Nat) : (minM P (f + 1) M left).1 = M := by
  rw [minM_same (roundM_stuck h left), roundM_stuck h left]
end
end Go.Proofs.Ytcddmggefmfkkaa
