/- Plain laws of loads and stores: what a load reads behind a store, and how many bytes a store changes. No walk. -/
import Derived.Test.YtjfdbfbdkjfgpaaMemE
import Derived.Test.YtjfdbfbdkjfgpaaMemG
namespace Go.Proofs.Ytjfdbfbdkjfgpaa
open Go.RowKit Go.Deco Go.Maps

theorem setBytes_at (M : Nat → Option Nat) (a x : Nat) : ∀ (n j : Nat), setBytes M a x n j = if a ≤ j ∧ j < a + n then some (x / 256 ^ (j - a) % 256) else M j
  | 0, j => by rw [setBytes, if_neg (by omega)]
  | n + 1, j => by
    show (if j = a + n then some (x / 256 ^ n % 256) else setBytes M a x n j) = _
    by_cases e : j = a + n
    · subst e
      rw [if_pos rfl, if_pos (by omega), show a + n - a = n by omega]
    · rw [if_neg e, setBytes_at M a x n j]
      by_cases h : a ≤ j ∧ j < a + n
      · rw [if_pos h, if_pos (by omega)]
      · rw [if_neg h, if_neg (by omega)]

theorem leNum_cons (b : Nat) (l : List Nat) : leNum (b :: l) = b + 256 * leNum l := rfl
theorem leNum_bytes : ∀ (n x : Nat), leNum ((List.range n).map fun k => x / 256 ^ k % 256) = x % 256 ^ n
  | 0, x => by simp [leNum, Nat.mod_one]
  | n + 1, x => by
    rw [List.range_succ_eq_map, List.map_cons, List.map_map, leNum_cons]
    have e : (List.range n).map ((fun k => x / 256 ^ k % 256) ∘ Nat.succ) = (List.range n).map fun k => x / 256 / 256 ^ k % 256 := by
      apply List.map_congr_left
      intro k _
      show x / 256 ^ (k + 1) % 256 = _
      rw [Nat.pow_succ, Nat.mul_comm, Nat.div_div_eq_div_mul]
    rw [e, leNum_bytes n (x / 256), Nat.pow_zero, Nat.div_one, Nat.pow_succ, Nat.mul_comm (256 ^ n), Nat.mod_mul]

theorem load_err (regs : List Reg) (M M' : Nat → Option Nat) (a : Nat) (q : Int) : (loadOf regs M a q).2 = (loadOf regs M' a q).2 := by
  unfold loadOf
  split
  · split <;> rfl
  · rfl
theorem okWidth_cases {q : Int} (h : okWidth q = true) : q = 1 ∨ q = 2 ∨ q = 4 := by simpa [okWidth, or_assoc] using h
theorem load_ok {regs : List Reg} {M : Nat → Option Nat} {a : Nat} {q : Int} (h : (loadOf regs M a q).2 = 0) :
    ∃ r, (q = 1 ∨ q = 2 ∨ q = 4) ∧ mappedReg regs a q.toNat = some r ∧ ∀ M', loadOf regs M' a q = (leNum (presentOf r M' a q.toNat), 0) := by
  unfold loadOf at h
  split at h
  · rename_i hw
    split at h
    · cases h
    · rename_i r hr
      refine ⟨r, okWidth_cases hw, hr, fun M' => ?_⟩
      rw [loadOf, if_pos hw, hr]
  · cases h
theorem load_no_zero {regs : List Reg} {M : Nat → Option Nat} {a : Nat} {q : Int} (h : (loadOf regs M a q).2 ≠ 0) : (loadOf regs M a q).1 = 0 := by
  unfold loadOf at h ⊢
  split
  · rename_i hw
    rw [if_pos hw] at h
    split
    · rfl
    · rename_i r hr
      rw [hr] at h
      exact absurd rfl h
  · rfl
theorem store_ok {regs : List Reg} {a : Nat} {q : Int} (h : storeErr regs a q = 0) : ∃ r, (q = 1 ∨ q = 2 ∨ q = 4) ∧ mappedReg regs a q.toNat = some r ∧ r.wr = true := by
  unfold storeErr at h
  split at h
  · rename_i hw
    split at h
    · cases h
    · rename_i r hr
      refine ⟨r, okWidth_cases hw, hr, ?_⟩
      split at h
      · assumption
      · cases h
  · cases h
theorem storeMap_no {regs : List Reg} {M : Nat → Option Nat} {a : Nat} {q : Int} {x : Nat} (h : storeErr regs a q ≠ 0) : storeMap regs M a q x = M := by rw [storeMap, if_neg h]

theorem presentOf_room {r : Reg} {M : Nat → Option Nat} {a n : Nat} (h : ¬ r.from_ + r.data.length - a < n) : presentOf r M a n = (List.range n).map fun k => byteAt r M (a + k) := by
  rw [presentOf, Nat.min_eq_left (by omega)]

/-- A load of the very range that was stored. -/
theorem load_stored {regs : List Reg} {M : Nat → Option Nat} {a : Nat} {q : Int} {x : Nat} (h : storeErr regs a q = 0) : loadOf regs (storeMap regs M a q x) a q = (x % 256 ^ q.toNat, 0) := by
  obtain ⟨r, hw, hr, _⟩ := store_ok h
  have hok : okWidth q = true := by rcases hw with rfl | rfl | rfl <;> rfl
  have hroom := (mappedReg_some hr).2
  rw [loadOf, if_pos hok, hr]
  simp only
  rw [presentOf_room hroom, ← leNum_bytes]
  congr 2
  apply List.map_congr_left
  intro k hk
  have hk : k < q.toNat := by simpa using hk
  rw [byteAt, storeMap, if_pos h, setBytes_at, if_pos (by omega), show a + k - a = k by omega]
  rfl

/-- A load of a range apart from the one that was stored. -/
theorem load_apart {regs : List Reg} {M : Nat → Option Nat} {a b : Nat} {q p : Int} {x : Nat} (hs : storeErr regs a q = 0) (hl : (loadOf regs M b p).2 = 0)
    (h : ∀ j k : Nat, (j : Int) < p → (k : Int) < q → b + j ≠ a + k) : loadOf regs (storeMap regs M a q x) b p = loadOf regs M b p := by
  obtain ⟨r, hw, hr, he⟩ := load_ok hl
  have hroom := (mappedReg_some hr).2
  rw [he, he, presentOf_room hroom, presentOf_room hroom]
  congr 2
  apply List.map_congr_left
  intro j hj
  have hj : (j : Int) < p := by
    have := List.mem_range.1 hj
    omega
  rw [byteAt, byteAt, storeMap, if_pos hs, setBytes_at, if_neg]
  rintro ⟨h1, h2⟩
  exact h j (b + j - a) hj (by omega) (by omega)

theorem mapped_lt {regs : List Reg} (hr : ∀ r ∈ regs, r.from_ + r.data.length ≤ 4294967295) {a n : Nat} {r : Reg} (h : mappedReg regs a n = some r) : a + n ≤ 4294967295 := by
  obtain ⟨h1, h2⟩ := mappedReg_some h
  have hm : r ∈ regs := List.mem_of_find?_eq_some h1
  have := hr r hm
  obtain ⟨h3, h4⟩ := findReg_has h1
  omega
theorem apart_of {regs : List Reg} (hr : ∀ r ∈ regs, r.from_ + r.data.length ≤ 4294967295) {M : Nat → Option Nat} {a b : Nat} {q p : Int} (hs : storeErr regs a q = 0) (hl : (loadOf regs M b p).2 = 0)
    (h1 : p ≤ ((a : Int) - b) % 4294967296) (h2 : q ≤ ((b : Int) - a) % 4294967296) : ∀ j k : Nat, (j : Int) < p → (k : Int) < q → b + j ≠ a + k := by
  obtain ⟨r, hw, hr1, _⟩ := store_ok hs
  obtain ⟨r', hw', hr2, _⟩ := load_ok hl
  have := mapped_lt hr hr1
  have := mapped_lt hr hr2
  intro j k hj hk
  omega

theorem changed_none (regs : List Reg) (a : Nat) : changedAt regs (fun _ => none) a = false := by
  unfold changedAt
  split <;> rfl
theorem changed_store {regs : List Reg} {a : Nat} {q : Int} {x j : Nat} (h : changedAt regs (storeMap regs (fun _ => none) a q x) j = true) : a ≤ j ∧ j < a + q.toNat := by
  by_cases hs : storeErr regs a q = 0
  · rw [storeMap, if_pos hs] at h
    unfold changedAt at h
    split at h
    · cases h
    · rw [setBytes_at] at h
      split at h
      · cases h
      · rename_i c hc
        split at hc
        · assumption
        · cases hc
  · rw [storeMap_no hs, changed_none] at h
    cases h
/-- What is listed in ascending order between two bounds is no longer than their distance. -/
theorem asc_length (l : List Nat) (b n : Nat) (h : l.Pairwise (· < ·)) (hb : ∀ x ∈ l, b ≤ x ∧ x < b + n) : l.length ≤ n := by
  have := lt_length l b (b + n) h hb
  omega
theorem regsOf_bound {l : List Sec} (h : secCheck l = 0) : ∀ r ∈ regsOf l, r.from_ + r.data.length ≤ 4294967295 := by
  intro r hr
  rw [regsOf, List.mem_append] at hr
  rcases hr with hr | hr
  · obtain ⟨s, hs, rfl⟩ := List.mem_map.1 hr
    obtain ⟨k, hk, rfl⟩ := List.getElem_of_mem hs
    have := secCheck_zero (List.getElem?_eq_getElem hk) h
    show (l[k]).addr + (l[k]).data.length ≤ _
    omega
  · simp at hr
    subst hr
    have h1 : stackReg.data.length = 4096 := List.length_replicate
    have h2 : stackReg.from_ = 978944 := rfl
    omega
theorem apart_eq {l : List Sec} {sa oa sx a1 b1 : Nat} {sw ow : Int} (h0 : secCheck l = 0) (hs : storeErr (regsOf l) sa sw = 0) (hA : loadOf (regsOf l) (fun _ => none) oa ow = (a1, 0))
    (hB : loadOf (regsOf l) (storeMap (regsOf l) (fun _ => none) sa sw sx) oa ow = (b1, 0)) (h1 : ow ≤ ((sa : Int) - oa) % 4294967296) (h2 : sw ≤ ((oa : Int) - sa) % 4294967296) : a1 = b1 := by
  have h := load_apart (M := fun _ => none) (x := sx) hs (by rw [hA]) (apart_of (regsOf_bound h0) hs (by rw [hA]) h1 h2)
  rw [hA, hB] at h
  injection h with h
  exact h.symm
end Go.Proofs.Ytjfdbfbdkjfgpaa
