/- law07: near. -/
import Derived.Test.YtnlofhbimfcejaaRelI
import Derived.Test.YtnlofhbimfcejaaRloL
namespace Go.Proofs.Ytnlofhbimfcejaa
open Go.RowKit Go.Deco
set_option linter.unusedSimpArgs false
set_option linter.unusedVariables false

def nearB (l : List Nat) (x : Nat) : Bool := l.any fun p => decide (w32 ((x : Int) - (p : Int)) < 4)
set_option maxRecDepth 100000 in
set_option maxHeartbeats 400000 in
theorem near7_any (w : World) (A : Option Addr) (n c : Nat) (l : List Nat) (hl : Sl u32R w All (.slice A n c) l) (x : Nat) (hx : x < 4294967296) :
    Calls Try.prog 23 #[.slice A n c, .int .u32 x] w fun e w' => e = .returned (.bool (nearB l x)) ∧ w = w' := by
  have hln := hl.len
  obtain ⟨hnc, hcm⟩ := hl.cap
  obtain ⟨r, hr⟩ : ∃ r, nearB l x = r := ⟨_, rfl⟩
  rw [hr]
  have HR := hid hr; clear hr
  have HS := hid hl; clear hl
  have HL := hid hln; clear hln
  go_enter Try.func23, Try.ntmps23
  go_wp2
  go_loop [5] (fun i => ∃ k : Nat, k ≤ n ∧ i = .int .i64 k ∧ Hid (nearB (l.take k) x = false)) (fun i => n - (intOf i).toNat)
  case atStart => exact ⟨0, by omega, rfl, hid (by simp [nearB])⟩
  case round =>
    obtain ⟨k, hk, rfl, ha⟩ := hrel
    by_cases h1 : k < n
    · obtain ⟨s, hs⟩ : ∃ s, l[k]? = some s := ⟨_, List.getElem?_eq_getElem (by have := HL.out; omega)⟩
      obtain ⟨b, off, rfl, c0, hs32⟩ := HS.out.num_at hs
      have HK := hid hs; clear hs
      obtain ⟨d, hd⟩ : ∃ d, w32 ((x : Int) - (s : Int)) = d := ⟨_, rfl⟩
      have e1 : IntKind.u32.wrap ((x : Int) - (s : Int)) = (d : Int) := by rw [wrap_w32, hd]
      have HD := hid hd; clear hd
      by_cases h2 : d < 4
      · have h3 : decide ((d : Int) < 4) = true := by simp; omega
        have H2 := hid h2
        clear h2
        go_wp2
        go_ret
        refine ⟨ret_bool ?_, rfl⟩
        rw [← HR.out]
        refine (List.any_eq_true.2 ⟨s, List.mem_of_getElem? HK.out, ?_⟩).symm
        rw [HD.out]
        exact decide_eq_true H2.out
      · have h3 : decide ((d : Int) < 4) = false := by simp; omega
        have H2 := hid h2
        clear h2
        go_wp2
        go_round
        case rel =>
          refine ⟨k + 1, by omega, by go_num, hid ?_⟩
          have h0 := ha.out
          unfold nearB at h0 ⊢
          rw [take_snoc' HK.out, List.any_append, h0]
          show (false || ((decide _) || false)) = false
          rw [HD.out, decide_eq_false H2.out]
          rfl
        case measure => simp [intOf]; omega
    · obtain rfl : k = n := by omega
      go_wp2
      go_ret
      have e : l.take k = l := List.take_of_length_le (by have := HL.out; omega)
      have h := ha.out
      rw [e] at h
      exact ⟨ret_bool (by rw [← HR.out]; exact h.symm), rfl⟩
end Go.Proofs.Ytnlofhbimfcejaa
