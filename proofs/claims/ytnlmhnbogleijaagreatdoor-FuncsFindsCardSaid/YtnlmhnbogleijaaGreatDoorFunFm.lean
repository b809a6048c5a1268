/- fromRef, Has, in; of the reference: index, Entries, Callees, Callers. -/
import Derived.Test.YtnlmhnbogleijaaGreatDoorFunEm
import Derived.StillTailTactics
namespace Go.Proofs.YtnlmhnbogleijaaGreatDoor
open Go.RowKit Go.Deco
set_option linter.unusedSimpArgs false
set_option linter.unusedVariables false

set_option maxRecDepth 100000 in
set_option maxHeartbeats 400000 in
theorem has_any (w : World) (S : Nat → Prop) (A : Option Addr) (n c : Nat) (l : List Nat) (hl : Sl u32R w S (.slice A n c) l) (x : Nat) :
    Calls Tryz.prog 62 #[.slice A n c, .int .u32 x] w fun e w' => e = .returned (.bool (l.contains x)) ∧ w = w' := by
  have hln := hl.len
  obtain ⟨hnc, hcm⟩ := hl.cap
  obtain ⟨r, hr⟩ : ∃ r, l.contains x = r := ⟨_, rfl⟩
  rw [hr]
  have HR := hid hr; clear hr
  have HS := hid hl; clear hl
  have HL := hid hln; clear hln
  go_enter Tryz.func62, Tryz.ntmps62
  go_wp2
  go_loop [5] (fun i => ∃ k : Nat, k ≤ n ∧ i = .int .i64 k ∧ Hid (x ∉ l.take k)) (fun i => n - (intOf i).toNat)
  case atStart => exact ⟨0, by omega, rfl, hid (by simp)⟩
  case round =>
    obtain ⟨k, hk, rfl, ha⟩ := hrel
    by_cases h1 : k < n
    · obtain ⟨s, hs⟩ : ∃ s, l[k]? = some s := ⟨_, List.getElem?_eq_getElem (by have := HL.out; omega)⟩
      obtain ⟨b, off, rfl, c0, hs32⟩ := HS.out.num_at hs
      have HK := hid hs; clear hs
      by_cases h2 : s = x
      · subst h2
        have h3 : ((s : Int) == (s : Int)) = true := by simp
        go_wp2
        go_ret
        exact ⟨ret_bool (by rw [← HR.out]; have := List.mem_of_getElem? HK.out; simp [this]), rfl⟩
      · have h3 : ((s : Int) == (x : Int)) = false := by simp; omega
        go_wp2
        go_round
        case rel =>
          refine ⟨k + 1, by omega, by go_num, hid ?_⟩
          rw [take_snoc' HK.out, List.mem_append]
          intro h
          rcases h with h | h
          · exact ha.out h
          · simp at h
            exact h2 h.symm
        case measure => simp [intOf]; omega
    · obtain rfl : k = n := by omega
      go_wp2
      go_ret
      have e : l.take k = l := List.take_of_length_le (by have := HL.out; omega)
      have h := ha.out
      rw [e] at h
      exact ⟨ret_bool (by rw [← HR.out]; simp [h]), rfl⟩


/-! ### the reference: index, Entries, Callees, Callers -/

end Go.Proofs.YtnlmhnbogleijaaGreatDoor
