/- Plain laws: the regions of a memory that New made do not meet; loads of parts of a range; bytes are less than 256. No walk. -/
import Derived.Test.YtjfdbfbdkjfgpaaMemP
namespace Go.Proofs.Ytjfdbfbdkjfgpaa
open Go.RowKit Go.Deco Go.Maps

def Apart (x y : Reg) : Prop := ∀ a, x.has a = true → y.has a = true → False
def Disj (l : List Reg) : Prop := ∀ (i j : Nat) (x y : Reg), l[i]? = some x → l[j]? = some y → i < j → Apart x y

theorem firstErr_each : ∀ (r pre : List Sec) {k : Nat} {s : Sec}, r[k]? = some s → firstErr pre r = 0 → secErr (pre ++ r.take k) s = 0
  | [], _, _, _, h, _ => by simp at h
  | x :: r, pre, 0, s, h, hf => by
    simp at h
    subst h
    rw [firstErr] at hf
    split at hf
    · simpa
    · contradiction
  | x :: r, pre, k + 1, s, h, hf => by
    rw [firstErr] at hf
    split at hf
    · have := firstErr_each r (pre ++ [x]) (k := k) (s := s) (by simpa using h) hf
      simpa using this
    · contradiction
theorem overl_each : ∀ (r pre : List Sec) {k : Nat} {s : Sec}, r[k]? = some s → overl pre r = false → (pre ++ r.take k).any (fun x => secMeet x s) = false
  | [], _, _, _, h, _ => by simp at h
  | x :: r, pre, 0, s, h, hf => by
    simp at h
    subst h
    rw [overl, Bool.or_eq_false_iff] at hf
    simpa using hf.1
  | x :: r, pre, k + 1, s, h, hf => by
    rw [overl, Bool.or_eq_false_iff] at hf
    have := overl_each r (pre ++ [x]) (k := k) (s := s) (by simpa using h) hf.2
    simpa using this
theorem secCheck_parts {l : List Sec} (h : secCheck l = 0) : firstErr [] l = 0 ∧ overl [] l = false := by
  unfold secCheck at h
  split at h
  · cases h
  · split at h
    · contradiction
    · rename_i h1
      split at h
      · cases h
      · rename_i h2
        exact ⟨by simpa using h1, by simpa using h2⟩
theorem meetN_no {a b c d : Nat} (h : meetN a b c d = false) (x : Nat) (h1 : a ≤ x) (h2 : x < b) (h3 : c ≤ x) (h4 : x < d) : False := by
  simp [meetN] at h
  omega
theorem has_iff (r : Reg) (a : Nat) : r.has a = true ↔ r.from_ ≤ a ∧ a < r.from_ + r.data.length := by simp [Reg.has]
theorem stack_has (a : Nat) : stackReg.has a = true ↔ 978944 ≤ a ∧ a < 983040 := by
  rw [has_iff]
  have h1 : stackReg.data.length = 4096 := List.length_replicate
  have h2 : stackReg.from_ = 978944 := rfl
  omega
theorem sec_far {l : List Sec} (h : secCheck l = 0) {i : Nat} {s : Sec} (hi : l[i]? = some s) : Apart (regOf s) stackReg := by
  intro a h1 h2
  have he := firstErr_each l [] hi (secCheck_parts h).1
  rw [has_iff] at h1
  rw [stack_has] at h2
  have h1' : s.addr ≤ a ∧ a < s.addr + s.data.length := h1
  unfold secErr at he
  split at he
  · cases he
  · split at he
    · cases he
    · split at he
      · cases he
      · split at he
        · cases he
        · rename_i hn
          have hm : meetN s.addr (secTo s) 978944 983040 = false := by
            cases hb : meetN s.addr (secTo s) 978944 983040 with
            | false => rfl
            | true => exact absurd (.inr hb) hn
          have hs : ¬ 4294967295 < s.addr + s.data.length := fun h => hn (.inl h)
          exact meetN_no hm a h1'.1 (by unfold secTo; omega) h2.1 h2.2
theorem sec_apart {l : List Sec} (h : secCheck l = 0) {i j : Nat} {x y : Sec} (hi : l[i]? = some x) (hj : l[j]? = some y) (hij : i < j) : Apart (regOf x) (regOf y) := by
  intro a h1 h2
  rw [has_iff] at h1 h2
  have h1' : x.addr ≤ a ∧ a < x.addr + x.data.length := h1
  have h2' : y.addr ≤ a ∧ a < y.addr + y.data.length := h2
  have hb := overl_each l [] hj (secCheck_parts h).2
  rw [List.nil_append, List.any_eq_false] at hb
  have hx : x ∈ l.take j := List.mem_of_getElem? (i := i) (by rw [List.getElem?_take, if_pos hij]; exact hi)
  have hm : secMeet x y = false := by simpa using hb x hx
  have e1 := (secCheck_zero hi h).2
  have e2 := (secCheck_zero hj h).2
  exact meetN_no hm a h1'.1 (by unfold secTo; omega) h2'.1 (by unfold secTo; omega)
theorem disj_regs {l : List Sec} (h : secCheck l = 0) : Disj (regsOf l) := by
  intro i j x y hi hj hij
  unfold regsOf at hi hj
  have hjl := (List.getElem?_eq_some_iff.1 hj).1
  have hil : i < (l.map regOf).length := by simp at hjl ⊢; omega
  rw [List.getElem?_append_left hil, List.getElem?_map] at hi
  obtain ⟨s, hs, rfl⟩ := Option.map_eq_some_iff.1 hi
  by_cases hjm : j < (l.map regOf).length
  · rw [List.getElem?_append_left hjm, List.getElem?_map] at hj
    obtain ⟨t, ht, rfl⟩ := Option.map_eq_some_iff.1 hj
    exact sec_apart h hs ht hij
  · rw [List.getElem?_append_right (by omega)] at hj
    have e : j - (l.map regOf).length = 0 := by simp at hjl ⊢; simp at hjm; omega
    rw [e] at hj
    simp at hj
    subst hj
    exact sec_far h hs

theorem findReg_index {l : List Reg} {a : Nat} {r : Reg} (h : findReg l a = some r) : ∃ i : Nat, l[i]? = some r ∧ r.has a = true := by
  rw [findReg, List.find?_eq_some_iff_getElem] at h
  obtain ⟨h1, i, hi, h2, _⟩ := h
  exact ⟨i, by rw [List.getElem?_eq_getElem hi, h2], h1⟩
theorem findReg_of {l : List Reg} (hd : Disj l) {a i : Nat} {r : Reg} (hi : l[i]? = some r) (ha : r.has a = true) : findReg l a = some r := by
  refine findReg_hit (k := i) (fun j hj y hy => ?_) hi ha
  cases hb : y.has a with
  | false => rfl
  | true => exact (hd j i y r hy hi hj a hb ha).elim
theorem mapped_part {l : List Reg} (hd : Disj l) {a n d k : Nat} {r : Reg} (h : mappedReg l a n = some r) (hk : 0 < k) (hdk : d + k ≤ n) : mappedReg l (a + d) k = some r := by
  obtain ⟨h1, h2⟩ := mappedReg_some h
  obtain ⟨i, hi, ha⟩ := findReg_index h1
  have := (has_iff r a).1 ha
  have hf := findReg_of hd hi (a := a + d) ((has_iff r _).2 ⟨by omega, by omega⟩)
  rw [mappedReg, hf]
  simp only
  rw [if_neg (by omega)]
theorem load_at {l : List Reg} {M : Nat → Option Nat} {a k : Nat} {r : Reg} (hk : okWidth k = true) (h : mappedReg l a k = some r) :
    loadOf l M a k = (leNum ((List.range k).map fun j => byteAt r M (a + j)), 0) := by
  have h2 := (mappedReg_some h).2
  rw [loadOf, if_pos hk, Int.toNat_natCast, h]
  simp only
  rw [presentOf_room h2]

/-- What a load of four bytes and its parts read. -/
theorem load_parts {l : List Reg} (hd : Disj l) {M : Nat → Option Nat} {a : Nat} (h : (loadOf l M a 4).2 = 0) :
    ∃ b0 b1 b2 b3 : Nat, dumpOf l M a 4 = ([b0, b1, b2, b3], 0) ∧ loadOf l M a 4 = (b0 + 256 * (b1 + 256 * (b2 + 256 * b3)), 0) ∧ loadOf l M a 2 = (b0 + 256 * b1, 0) ∧ loadOf l M (a + 2) 2 = (b2 + 256 * b3, 0) ∧
      loadOf l M a 1 = (b0, 0) ∧ loadOf l M (a + 1) 1 = (b1, 0) ∧ loadOf l M (a + 2) 1 = (b2, 0) ∧ loadOf l M (a + 3) 1 = (b3, 0) := by
  obtain ⟨r, _, hr, _⟩ := load_ok h
  have hr4 : mappedReg l a 4 = some r := hr
  have h2 := (mappedReg_some hr4).2
  refine ⟨byteAt r M a, byteAt r M (a + 1), byteAt r M (a + 2), byteAt r M (a + 3), ?_, ?_, ?_, ?_, ?_, ?_, ?_, ?_⟩
  · unfold dumpOf
    rw [if_neg (by omega), if_neg (by omega), show (4 : Int).toNat = 4 from rfl, hr4]
    simp only
    rw [presentOf_room h2]
    rfl
  · exact load_at (k := 4) rfl hr4
  · exact load_at (k := 2) rfl (by simpa using mapped_part hd (d := 0) (k := 2) hr4 (by omega) (by omega))
  · exact load_at (k := 2) rfl (mapped_part hd (d := 2) hr4 (by omega) (by omega))
  · exact load_at (k := 1) rfl (by simpa using mapped_part hd (d := 0) (k := 1) hr4 (by omega) (by omega))
  · exact load_at (k := 1) rfl (mapped_part hd (d := 1) hr4 (by omega) (by omega))
  · exact load_at (k := 1) rfl (mapped_part hd (d := 2) hr4 (by omega) (by omega))
  · exact load_at (k := 1) rfl (mapped_part hd (d := 3) hr4 (by omega) (by omega))
theorem load_no_parts {l : List Reg} {M : Nat → Option Nat} {a : Nat} (h : (loadOf l M a 4).2 ≠ 0) : dumpOf l M a 4 = ([], (loadOf l M a 4).2) ∧ (loadOf l M a 4).1 = 0 := by
  refine ⟨?_, load_no_zero h⟩
  unfold loadOf at h ⊢
  rw [if_pos (by rfl)] at h ⊢
  unfold dumpOf
  rw [if_neg (by omega), if_neg (by omega)]
  cases hm : mappedReg l a (Int.toNat 4) with
  | none => rfl
  | some r => rw [hm] at h; exact absurd rfl h
theorem load_bound {l : List Sec} (h0 : secCheck l = 0) {M : Nat → Option Nat} {a : Nat} (h : (loadOf (regsOf l) M a 4).2 = 0) : a + 4 ≤ 4294967295 := by
  obtain ⟨r, _, hr, _⟩ := load_ok h
  exact mapped_lt (regsOf_bound h0) (n := 4) hr
end Go.Proofs.Ytjfdbfbdkjfgpaa
