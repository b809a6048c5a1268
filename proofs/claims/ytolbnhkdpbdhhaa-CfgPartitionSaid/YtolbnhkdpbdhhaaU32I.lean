/- slices.Index, Contains at []uint32. -/
import Derived.Test.YtolbnhkdpbdhhaaU32A
namespace Go.Proofs.Ytolbnhkdpbdhhaa
open Go.RowKit Go.Deco
set_option linter.unusedSimpArgs false
set_option linter.unusedVariables false

def ixN (p : Nat → Bool) (l : List Nat) : Int := match l.findIdx? p with | some k => k | none => -1
theorem ixN_hit {p : Nat → Bool} {l : List Nat} {k e : Nat} (h : ∀ j, j < k → ∀ y, l[j]? = some y → p y = false) (hk : l[k]? = some e) (hp : p e = true) : ixN p l = k := by
  have : l.findIdx? p = some k := by
    rw [List.findIdx?_eq_some_iff_getElem]
    obtain ⟨hlt, rfl⟩ := List.getElem?_eq_some_iff.1 hk
    exact ⟨hlt, hp, fun j hj => by have := h j hj _ (List.getElem?_eq_getElem (by omega)); simp [this]⟩
  rw [ixN, this]
theorem ixN_miss {p : Nat → Bool} {l : List Nat} (h : ∀ j, j < l.length → ∀ y, l[j]? = some y → p y = false) : ixN p l = -1 := by
  have : l.findIdx? p = none := by
    rw [List.findIdx?_eq_none_iff]
    intro x hx
    obtain ⟨k, hk, rfl⟩ := List.getElem_of_mem hx
    exact h k hk _ (List.getElem?_eq_getElem hk)
  rw [ixN, this]
theorem ixN_cases (p : Nat → Bool) (l : List Nat) : (ixN p l = -1 ∧ ∀ x ∈ l, p x = false) ∨ ∃ (k : Nat) (x : Nat), ixN p l = k ∧ l[k]? = some x ∧ p x = true ∧ ∀ y ∈ l.take k, p y = false := by
  unfold ixN
  cases h : l.findIdx? p with
  | none =>
    rw [List.findIdx?_eq_none_iff] at h
    exact .inl ⟨rfl, h⟩
  | some k =>
    rw [List.findIdx?_eq_some_iff_getElem] at h
    obtain ⟨hlt, hp, hj⟩ := h
    refine .inr ⟨k, l[k], rfl, List.getElem?_eq_getElem hlt, hp, fun y hy => ?_⟩
    obtain ⟨j, hj', rfl⟩ := List.getElem_of_mem hy
    simp at hj'
    rw [List.getElem_take]
    have := hj j (by omega)
    simpa using this

/-! ### Index, Contains -/
set_option maxRecDepth 100000 in
set_option maxHeartbeats 400000 in
theorem index32_any (w : World) (S : Nat → Prop) (A : Option Addr) (n c : Nat) (l : List Nat) (hl : Sl u32R w S (.slice A n c) l) (hn : n ≤ 9223372036854775807) (x : Nat) :
    Calls Try.prog 57 #[.slice A n c, .int .u32 x] w fun e w' => e = .returned (.int .i64 (ixN (fun y => y == x) l)) ∧ w = w' := by
  have hln := hl.len
  have HS := hid hl; clear hl
  have HL := hid hln; clear hln
  go_enter Try.func57, Try.ntmps57
  go_wp2
  go_loop [8] (fun i => ∃ k : Nat, k ≤ n ∧ i = .int .i64 k ∧ Hid (∀ j, j < k → ∀ y, l[j]? = some y → (y == x) = false)) (fun i => n - (intOf i).toNat)
  case atStart => exact ⟨0, by omega, rfl, hid (by omega)⟩
  case round =>
    obtain ⟨k, hk, rfl, ha⟩ := hrel
    by_cases h1 : k < n
    · obtain ⟨s, hs⟩ : ∃ s, l[k]? = some s := ⟨_, List.getElem?_eq_getElem (by have := HL.out; omega)⟩
      obtain ⟨b, off, rfl, c0, hs32⟩ := HS.out.num_at hs
      have HK := hid hs; clear hs
      by_cases h2 : s = x
      · subst h2
        have h3 : ((s : Int) == (s : Int)) = true := by simp
        go_wp2
        go_ret
        exact ⟨ret_int (ixN_hit ha.out HK.out (by simp)).symm, rfl⟩
      · have h3 : ((x : Int) == (s : Int)) = false := by simp; omega
        go_wp2
        go_round
        case rel =>
          refine ⟨k + 1, by omega, by go_num, hid fun j hj y hy => ?_⟩
          rcases Nat.lt_or_ge j k with h | h
          · exact ha.out j h y hy
          · obtain rfl : j = k := by omega
            have := HK.out.symm.trans hy
            injection this with this
            rw [← this]; simpa using h2
        case measure => simp [intOf]; omega
    · go_wp2
      go_ret
      exact ⟨ret_int (ixN_miss (fun j hj => ha.out j (by have := HL.out; omega))).symm, rfl⟩
theorem ixN_contains (l : List Nat) (x : Nat) : decide (0 ≤ ixN (fun y => y == x) l) = l.contains x := by
  rcases ixN_cases (fun y => y == x) l with ⟨h1, h2⟩ | ⟨k, y, h1, h2, h3, _⟩
  · rw [h1]
    have : ¬ x ∈ l := fun h => by have := h2 x h; simp at this
    simp [this]
  · rw [h1]
    simp at h3
    subst h3
    have := List.mem_of_getElem? h2
    simp [this]
set_option maxRecDepth 100000 in
set_option maxHeartbeats 400000 in
theorem contains32_any (w : World) (S : Nat → Prop) (A : Option Addr) (n c : Nat) (l : List Nat) (hl : Sl u32R w S (.slice A n c) l) (hn : n ≤ 9223372036854775807) (x : Nat) :
    Calls Try.prog 40 #[.slice A n c, .int .u32 x] w fun e w' => e = .returned (.bool (l.contains x)) ∧ w = w' := by
  have hc := index32_any w S A n c l hl hn x
  have HI := ixN_contains l x
  generalize l.contains x = b at *
  generalize ixN (fun y => y == x) l = i at *
  have HS := hid hl; clear hl
  have HC := hid hc; clear hc
  have HI := hid HI
  go_enter Try.func40, Try.ntmps40
  go_wp2_with fail
  refine HC.out.mono ?_
  rintro e w1 ⟨rfl, rfl⟩
  go_wp2
  all_goals
    go_ret
    exact ⟨ret_bool (by rw [← HI.out]), rfl⟩

end Go.Proofs.Ytolbnhkdpbdhhaa
