/- CoverageCounts as plain law. No walk. -/
import Derived.Test.YtcddmggefmfkkaaBlkB
namespace Go.Proofs.Ytcddmggefmfkkaa
open Go.RowKit Go.Deco
set_option linter.unusedVariables false

theorem tot_map {f : Nat → Nat} : ∀ {L : List Nat} {a : Nat}, L.Nodup → tot (L.map fun x => (x, ((f x : Nat) : Int))) a = if a ∈ L then min (f a) 2147483647 else 0
  | [], a, _ => rfl
  | x :: r, a, h => by
    have hx := (List.nodup_cons.1 h).1
    have ih := tot_map (f := f) (L := r) (a := a) (List.nodup_cons.1 h).2
    show (if x = a then hit ((f x : Nat) : Int) else 0) + tot (r.map fun x => (x, ((f x : Nat) : Int))) a = _
    rw [ih]
    by_cases e : x = a
    · subst e
      rw [if_pos rfl, if_neg hx, if_pos (by simp), hit]
      simp
    · rw [if_neg e]
      by_cases hm : a ∈ r
      · rw [if_pos hm, if_pos (by simp [hm])]; omega
      · rw [if_neg hm, if_neg (by simp [hm]; exact fun h => e h.symm)]
theorem zip_map (L : List Nat) (f : Nat → Int) : L.zip (L.map f) = L.map fun x => (x, f x) := by
  induction L with
  | nil => rfl
  | cons x r ih => simp [ih]
theorem tot_cov (p : List (Nat × Int)) (a : Nat) : tot (pairs (covB p) (covH p)) a = capH (tot p a) := by
  rw [pairs, covH, zip_map]
  refine (tot_map (f := fun a => capH (tot p a)) (L := covB p) (a := a) (pw_nodup (asc_pw _))).trans ?_
  by_cases h : a ∈ covB p
  · rw [if_pos h]; unfold capH; omega
  · rw [if_neg h]
    rw [covB_mem] at h
    unfold capH
    omega
theorem traced_append (l s t : List Nat) (a : Nat) : tot (traced l (s ++ t)) a = tot (traced l s) a + tot (traced l t) a := by
  rw [traced, List.filter_append, ones, List.map_append, tot_append]
  rfl
/-- The cover of two traces one after the other is the merged cover of both. -/
theorem both_same (l s t : List Nat) : covB (mergeP (covB (traced l s)) (covH (traced l s)) (covB (traced l t)) (covH (traced l t))) = covB (traced l (s ++ t)) ∧ covH (mergeP (covB (traced l s)) (covH (traced l s)) (covB (traced l t)) (covH (traced l t))) = covH (traced l (s ++ t)) :=
  covB_eq fun a => by rw [mergeP, tot_append, tot_cov, tot_cov, capH_two, traced_append]

theorem sum_add (L : List Nat) (f g : Nat → Nat) : (L.map fun a => f a + g a).sum = (L.map f).sum + (L.map g).sum := by
  induction L with
  | nil => rfl
  | cons x r ih => simp only [List.map_cons, List.sum_cons, ih]; omega
theorem sum_one {y : Nat} : ∀ {L : List Nat}, L.Nodup → (L.map fun a => if y = a then 1 else 0).sum = if y ∈ L then 1 else 0
  | [], _ => rfl
  | x :: r, h => by
    have hx := (List.nodup_cons.1 h).1
    rw [List.map_cons, List.sum_cons, sum_one (List.nodup_cons.1 h).2]
    by_cases e : y = x
    · subst e
      rw [if_pos rfl, if_neg hx, if_pos (by simp)]
    · rw [if_neg e]
      by_cases hm : y ∈ r
      · rw [if_pos hm, if_pos (by simp [hm])]
      · rw [if_neg hm, if_neg (by simp [e, hm])]
theorem sum_counts {L : List Nat} (h : L.Nodup) : ∀ s : List Nat, (L.map fun a => s.count a).sum = (s.filter fun a => L.contains a).length
  | [] => by
    simp
    induction L with
    | nil => rfl
    | cons x r ih => simp [ih (List.nodup_cons.1 h).2]
  | y :: s => by
    have e : (L.map fun a => (y :: s).count a) = L.map fun a => s.count a + if y = a then 1 else 0 := List.map_congr_left fun a _ => by
      rw [List.count_cons]
      by_cases h : y = a <;> simp [h]
    rw [e, sum_add, sum_counts h s, sum_one h, List.filter_cons]
    by_cases hm : y ∈ L
    · rw [if_pos hm, if_pos (by simpa using hm), List.length_cons]
    · rw [if_neg hm, if_neg (by simpa using hm), Nat.add_zero]
/-- How many addresses of the trace have a block. -/
def hitN (l s : List Nat) : Nat := (s.filter fun a => l.contains a).length
theorem hitN_step {l s : List Nat} {i x : Nat} (h : s[i]? = some x) : hitN l (s.take (i + 1)) = hitN l (s.take i) + if l.contains x then 1 else 0 := by
  rw [hitN, take_snoc' h, List.filter_append, List.length_append, hitN, List.filter_cons]
  cases l.contains x <;> simp
theorem hitN_le (l s : List Nat) (k : Nat) : hitN l (s.take k) ≤ k := by
  have h1 := List.length_filter_le (fun a => l.contains a) (s.take k)
  have h2 : (s.take k).length ≤ k := List.length_take_le _ _
  unfold hitN
  omega
theorem hits_sum (l s : List Nat) : ((refB l s).map fun a => s.count a).sum = hitN l s := by
  rw [sum_counts (L := refB l s) (pw_nodup (asc_pw _)), hitN]
  congr 1
  refine List.filter_congr fun a ha => ?_
  rw [Bool.eq_iff_iff]
  simp only [List.contains_iff_mem, refB, asc_mem, List.mem_filter]
  exact ⟨fun h => h.1, fun h => ⟨h, ha⟩⟩
theorem sum_take {L : List Nat} {f : Nat → Nat} {k a : Nat} (h : L[k]? = some a) : ((L.take (k + 1)).map f).sum = ((L.take k).map f).sum + f a := by
  rw [take_snoc' h, List.map_append, List.sum_append]
  simp
theorem sum_take_le (L : List Nat) (f : Nat → Nat) (k : Nat) : ((L.take k).map f).sum ≤ (L.map f).sum := by
  have h : L.map f = (L.take k).map f ++ (L.drop k).map f := by rw [← List.map_append, List.take_append_drop]
  rw [h, List.sum_append]
  omega
theorem refB_pos {l s : List Nat} {a : Nat} (h : a ∈ refB l s) : 0 < s.count a := by
  rw [refB, asc_mem, List.mem_filter] at h
  rw [List.count_pos_iff]
  simpa using h.2
theorem missed_iff {l bl : List Nat} {x : Nat} (h : x ∈ l) : (missedOf l bl).contains x = !bl.contains x := by
  rw [Bool.eq_iff_iff]
  simp only [List.contains_iff_mem, missedOf, asc_mem, List.mem_filter]
  exact ⟨fun h => h.2, fun h2 => ⟨h, h2⟩⟩
end Go.Proofs.Ytcddmggefmfkkaa
