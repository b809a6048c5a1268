/- The helpers of the statements about memory: few, Words. -/
import Derived.Test.YtjfdbfbdkjfgpaaMemE
import Derived.BigQuiet
namespace Go.Proofs.Ytjfdbfbdkjfgpaa
open Go.RowKit Go.Deco

def SomeBool (w : World) (e : Ending) (w' : World) : Prop := (∃ b, e = .returned (.bool b)) ∧ w = w'

set_option maxRecDepth 100000 in
set_option maxHeartbeats 1000000 in
theorem few_any (w : World) (A : Option Addr) (n c : Nat) (l : List Sec) (hl : Sl secR w All (.slice A n c) l) :
    Calls Try.prog 10 #[.slice A n c] w (SomeBool w) := by
  have hln := hl.len
  obtain ⟨hnc, hcm⟩ := hl.cap
  have HS := hid hl; clear hl
  have HL := hid hln; clear hln
  go_enter Try.func10, Try.ntmps10
  go_wp2
  go_loop [3] (fun i => ∃ k : Nat, k ≤ n ∧ i = .int .i64 k) (fun i => n - (intOf i).toNat)
  case atStart => exact ⟨0, by omega, rfl⟩
  case round =>
    obtain ⟨k, hk, rfl⟩ := hrel
    by_cases h1 : k < n
    · by_cases h2 : k < 20
      · obtain ⟨s, hs⟩ : ∃ s, l[k]? = some s := ⟨_, List.getElem?_eq_getElem (by have := HL.out; omega)⟩
        obtain ⟨b, off, dA, dc, rfl, hd, hdl, hal, hnl, s0, s1, s2, s3, s4⟩ := HS.out.sec_at hs
        obtain ⟨hdc, hdm⟩ := hd.cap
        clear hd hs
        by_cases h3 : 100 < s.data.length
        · go_wp2
          all_goals first
            | (go_ret; exact ⟨⟨_, rfl⟩, rfl⟩)
            | (go_round
               case rel => exact ⟨k + 1, by omega, by go_num⟩
               case measure => simp [intOf]; omega)
        · go_wp2
          all_goals first
            | (go_ret; exact ⟨⟨_, rfl⟩, rfl⟩)
            | (go_round
               case rel => exact ⟨k + 1, by omega, by go_num⟩
               case measure => simp [intOf]; omega)
      · go_wp2
        go_ret
        exact ⟨⟨_, rfl⟩, rfl⟩
    · go_wp2
      go_ret
      exact ⟨⟨_, rfl⟩, rfl⟩

end Go.Proofs.Ytjfdbfbdkjfgpaa
