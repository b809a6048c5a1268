/- Coverage: covers, inputs and the minimizer as plain law. No walk. -/
import Derived.Test.YtcddmggefmfkkaaAsc
namespace Go.Proofs.Ytcddmggefmfkkaa
open Go.RowKit Go.Deco
set_option linter.unusedVariables false

/-- Saturated. -/
def capH (n : Nat) : Nat := min n 2147483647
def hit (n : Int) : Nat := min n.toNat 2147483647
/-- What pairs of addresses and hits say of an address. -/
def tot : List (Nat × Int) → Nat → Nat
  | [], _ => 0
  | p :: r, a => (if p.1 = a then hit p.2 else 0) + tot r a
theorem tot_append : ∀ (p q : List (Nat × Int)) (a : Nat), tot (p ++ q) a = tot p a + tot q a
  | [], q, a => by simp [tot]
  | x :: r, q, a => by rw [List.cons_append, tot, tot, tot_append r q a]; omega
theorem tot_snoc (p : List (Nat × Int)) (x : Nat) (n : Int) (a : Nat) : tot (p ++ [(x, n)]) a = tot p a + (if x = a then hit n else 0) := by
  rw [tot_append]
  simp [tot]
theorem tot_none {p : List (Nat × Int)} {a : Nat} (h : a ∉ p.map Prod.fst) : tot p a = 0 := by
  induction p with
  | nil => rfl
  | cons x r ih =>
    rw [List.map_cons, List.mem_cons, not_or] at h
    rw [tot, ih h.2, if_neg (fun e => h.1 e.symm)]
theorem capH_add (s d : Nat) : capH (capH s + d) = capH (s + d) := by unfold capH; omega
theorem capH_le (n : Nat) : capH n ≤ 2147483647 := Nat.min_le_right _ _
theorem capH_pos (n : Nat) : 0 < capH n ↔ 0 < n := by unfold capH; omega
theorem capH_two (x y : Nat) : capH (capH x + capH y) = capH (x + y) := by unfold capH; omega
/-- The map of the counts. -/
def cntF (p : List (Nat × Int)) : Nat → Option Value := fun x => if (p.map Prod.fst).contains x then some (.int .i64 (capH (tot p x))) else none
theorem cntF_look (p : List (Nat × Int)) (x : Nat) : (cntF p x).getD (.int .i64 0) = .int .i64 (capH (tot p x)) := by
  unfold cntF
  split
  · rfl
  · rename_i h
    rw [tot_none (by simpa using h)]
    rfl
theorem cntF_some (p : List (Nat × Int)) (x : Nat) : (cntF p x).isSome = true ↔ x ∈ p.map Prod.fst := by
  unfold cntF
  split
  · rename_i h
    exact ⟨fun _ => by simpa using h, fun _ => rfl⟩
  · rename_i h
    exact ⟨fun h2 => (by cases h2), fun h2 => absurd (by simpa using h2) h⟩
theorem cntF_snoc (p : List (Nat × Int)) (x : Nat) (n : Int) : ∀ j, cntF (p ++ [(x, n)]) j = if j = x then some (.int .i64 (capH (capH (tot p x) + hit n))) else cntF p j := by
  intro j
  unfold cntF
  rw [tot_snoc]
  by_cases hj : j = x
  · subst hj
    rw [if_pos rfl, if_pos rfl, capH_add, if_pos]
    simp
  · rw [if_neg hj, if_neg (show ¬ x = j from fun e => hj e.symm), Nat.add_zero]
    have : ((p ++ [(x, n)]).map Prod.fst).contains j = (p.map Prod.fst).contains j := by
      rw [Bool.eq_iff_iff]
      simp [hj]
    rw [this]
/-- The canonical cover. -/
def covB (p : List (Nat × Int)) : List Nat := asc ((p.map Prod.fst).filter fun a => decide (0 < tot p a))
def covH (p : List (Nat × Int)) : List Int := (covB p).map fun a => ((capH (tot p a) : Nat) : Int)
theorem covB_mem {p : List (Nat × Int)} {a : Nat} : a ∈ covB p ↔ 0 < tot p a := by
  rw [covB, asc_mem, List.mem_filter]
  constructor
  · rintro ⟨_, h⟩
    simpa using h
  · intro h
    refine ⟨?_, by simpa using h⟩
    apply Classical.byContradiction
    intro hn
    rw [tot_none hn] at h
    omega
theorem covB_len (p : List (Nat × Int)) : (covB p).length ≤ p.length := by
  have h1 := asc_len ((p.map Prod.fst).filter fun a => decide (0 < tot p a))
  have h2 := List.length_filter_le (fun a => decide (0 < tot p a)) (p.map Prod.fst)
  rw [List.length_map] at h2
  exact Nat.le_trans h1 h2
theorem covB_eq {p q : List (Nat × Int)} (h : ∀ a, capH (tot p a) = capH (tot q a)) : covB p = covB q ∧ covH p = covH q := by
  have hb : covB p = covB q := pw_ext (asc_pw _) (asc_pw _) fun a => by
    rw [covB_mem, covB_mem, ← capH_pos, h, capH_pos]
  exact ⟨hb, by rw [covH, covH, hb]; exact List.map_congr_left fun a _ => by rw [h]⟩
/-- The sorted keys, those with hits. -/
theorem covB_keys (p : List (Nat × Int)) : (asc (p.map Prod.fst)).filter (fun a => decide (0 < tot p a)) = covB p :=
  asc_of ((asc_pw _).filter _) fun a => by
    rw [List.mem_filter, List.mem_filter, asc_mem]

/-- The pairs of a cover. -/
def pairs (b : List Nat) (h : List Int) : List (Nat × Int) := b.zip h
/-- Each of a list once. -/
def ones (l : List Nat) : List (Nat × Int) := l.map fun a => (a, (1 : Int))
theorem tot_ones (l : List Nat) (a : Nat) : tot (ones l) a = l.count a := by
  induction l with
  | nil => rfl
  | cons x r ih =>
    show (if x = a then hit 1 else 0) + tot (ones r) a = _
    rw [ih, List.count_cons]
    by_cases h : x = a
    · simp [h, hit]; omega
    · simp [h]

/- The generator. -/
def stepG (g : Nat) : Nat := (g * 1664525 + 1013904223) % 4294967296
def numG (x : Nat) : Nat := if x < 1073741824 then x % 16 else if x < 2147483648 then x % 256 else if x < 3221225472 then (4294967296 - x % 16) % 4294967296 else x
def itG (g : Nat) : Nat → Nat
  | 0 => g
  | i + 1 => stepG (itG g i)
def cellI (g k i : Nat) : Nat := if k = 0 then 0 else if k = 1 then 4294967295 else if k = 2 then i else numG (itG g (i + 1))
def rowI (g k len : Nat) : List Nat := (List.range len).map (cellI g k)
def stI (g k len : Nat) : Nat := if k < 3 then g else itG g len
def stateI (seed len : Nat) : Nat → Nat
  | 0 => seed
  | k + 1 => stI (stateI seed len k) k len
def inputsI (seed n len : Nat) : List (List Nat) := (List.range n).map fun k => rowI (stateI seed len k) k len
theorem stepG_lt (g : Nat) : stepG g < 4294967296 := Nat.mod_lt _ (by omega)
theorem itG_lt {g : Nat} (hg : g < 4294967296) : ∀ i, itG g i < 4294967296
  | 0 => hg
  | i + 1 => stepG_lt _
theorem stI_lt {g : Nat} (hg : g < 4294967296) (k len : Nat) : stI g k len < 4294967296 := by
  unfold stI
  split
  · exact hg
  · exact itG_lt hg len
theorem stateI_lt {g : Nat} (hg : g < 4294967296) (len : Nat) : ∀ k, stateI g len k < 4294967296
  | 0 => hg
  | k + 1 => stI_lt (stateI_lt hg len k) k len
theorem numG_lt {x : Nat} (h : x < 4294967296) : numG x < 4294967296 := by
  have h1 := Nat.mod_lt x (show 0 < 16 by omega)
  have h2 := Nat.mod_lt x (show 0 < 256 by omega)
  have h3 := Nat.mod_lt (4294967296 - x % 16) (show 0 < 4294967296 by omega)
  unfold numG
  split
  · omega
  · split
    · omega
    · split
      · exact h3
      · exact h
theorem inputsI_take (seed n m len : Nat) (h : m ≤ n) : (inputsI seed n len).take m = inputsI seed m len := by
  rw [inputsI, inputsI, ← List.map_take, List.take_range, Nat.min_eq_left h]
theorem inputsI_three (x y len : Nat) : inputsI x 3 len = inputsI y 3 len := by
  have e : ∀ g h k, k < 3 → rowI g k len = rowI h k len := fun g h k hk => by
    unfold rowI
    refine List.map_congr_left fun i _ => ?_
    unfold cellI
    have : k = 0 ∨ k = 1 ∨ k = 2 := by omega
    rcases this with rfl | rfl | rfl <;> simp
  unfold inputsI
  refine List.map_congr_left fun k hk => e _ _ k (by simpa using hk)

/- The minimizer. P: the predicate; left: the calls left. -/
def delM (P : List Nat → Bool) (L : List Nat) (left k : Nat) : List Nat × Nat :=
  match left with
  | 0 => (L, 0)
  | m + 1 => if k < L.length then (if P (L.eraseIdx k) then delM P (L.eraseIdx k) m k else delM P L m (k + 1)) else (L, m + 1)
def redK (P : List Nat → Bool) (L : List Nat) (left k : Nat) : List Nat × Nat :=
  let x := L[k]?.getD 0
  if x = 0 then (L, left) else
  if P (L.set k 0) then (L.set k 0, left - 1) else
  if x ≤ 1 then (L, left - 1) else
  if left - 1 = 0 then (L, 0) else
  if P (L.set k (x / 2)) then (L.set k (x / 2), left - 2) else (L, left - 2)
def redM (P : List Nat → Bool) : Nat → List Nat → Nat → Nat → List Nat × Nat
  | 0, L, left, k => (L, left)
  | m + 1, L, left, k => if left = 0 then (L, left) else redM P m (redK P L left k).1 (redK P L left k).2 (k + 1)
def roundM (P : List Nat → Bool) (L : List Nat) (left : Nat) : List Nat × Nat :=
  redM P (delM P L left 0).1.length (delM P L left 0).1 (delM P L left 0).2 0
def minM (P : List Nat → Bool) : Nat → List Nat → Nat → List Nat × Nat
  | 0, L, left => (L, left)
  | f + 1, L, left => if (roundM P L left).1 = L then roundM P L left else if (roundM P L left).2 = 0 then roundM P L left else minM P f (roundM P L left).1 (roundM P L left).2
/-- What Minimize returns, and the calls that it leaves. -/
def minimizeM (P : List Nat → Bool) (l : List Nat) : List Nat × Nat := if P l then minM P 1000 l 999 else (l, 999)
/-- The weight that each success lowers. -/
def wtM (L : List Nat) : Nat := L.length + L.sum
theorem sum_erase : ∀ (L : List Nat) (k : Nat), (L.eraseIdx k).sum ≤ L.sum
  | [], k => by simp
  | x :: r, 0 => by simp
  | x :: r, k + 1 => by
    have := sum_erase r k
    simp only [List.eraseIdx_cons_succ, List.sum_cons]
    omega
theorem wt_erase {L : List Nat} {k : Nat} (h : k < L.length) : wtM (L.eraseIdx k) < wtM L := by
  have h1 := sum_erase L k
  have h2 := List.length_eraseIdx_of_lt h
  unfold wtM
  omega
theorem wt_set : ∀ {L : List Nat} {k x y : Nat}, L[k]? = some x → y < x → wtM (L.set k y) < wtM L
  | [], k, x, y, h, _ => by simp at h
  | z :: r, 0, x, y, h, hy => by
    simp at h
    subst h
    simp only [wtM, List.set_cons_zero, List.length_cons, List.sum_cons]
    omega
  | z :: r, k + 1, x, y, h, hy => by
    have := wt_set (L := r) (k := k) (by simpa using h) hy
    simp only [wtM, List.set_cons_succ, List.length_cons, List.sum_cons] at this ⊢
    omega
end Go.Proofs.Ytcddmggefmfkkaa
