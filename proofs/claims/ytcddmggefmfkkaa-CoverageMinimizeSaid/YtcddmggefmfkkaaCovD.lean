/- coverage: the generator and Inputs. -/
import Derived.Test.YtcddmggefmfkkaaCovC
namespace Go.Proofs.Ytcddmggefmfkkaa
open Go.RowKit Go.Deco
set_option linter.unusedSimpArgs false
set_option linter.unusedVariables false

theorem step_int (g : Nat) : ((g : Int) * 1664525 + 1013904223) % 4294967296 = ((stepG g : Nat) : Int) := by
  unfold stepG
  omega
set_option maxRecDepth 100000 in
set_option maxHeartbeats 1000000 in
theorem next_any (w : World) (b g : Nat) (hg : g < 4294967296) (hc : w.cell? ⟨b, 0, none⟩ = some (.int .u32 g)) (hf : w.frozen? ⟨b, 0, none⟩ = false) :
    Calls Try.prog 37 #[.pointer (some ⟨b, 0, none⟩)] w fun e w' => e = .returned (.int .u32 (numG (stepG g) : Nat)) ∧ w' = w.setCell ⟨b, 0, none⟩ (.int .u32 (stepG g : Nat)) := by
  have hw := step_int g
  have hx := stepG_lt g
  obtain ⟨x, hxx⟩ : ∃ x, stepG g = x := ⟨_, rfl⟩
  rw [hxx] at hw hx ⊢
  clear hxx
  have HW := hid hw
  clear hw
  obtain ⟨v, hv⟩ : ∃ v, numG x = v := ⟨_, rfl⟩
  rw [hv]
  have HV := hid hv
  clear hv
  go_enter Try.func37, Try.ntmps37
  go_wp2
  all_goals go_ret
  all_goals refine ⟨ret_int ?_, by rw [HW.out]⟩
  all_goals have hw := HW.out
  all_goals have hv := HV.out
  all_goals unfold numG at hv
  all_goals simp only [beq_iff_eq, beq_eq_false_iff_ne, ne_eq] at *
  all_goals (repeat' split at hv)
  all_goals first
    | omega
    | (have h16 : ((g : Int) * 1664525 + 1013904223) % 16 = ((x % 16 : Nat) : Int) := by
        have := Int.emod_emod_of_dvd ((g : Int) * 1664525 + 1013904223) (show (16 : Int) ∣ 4294967296 by decide)
        rw [hw] at this
        rw [← this]
        rfl
       rw [h16]
       have h17 := Nat.mod_lt x (show 0 < 16 by omega)
       generalize x % 16 = r at *
       omega)
end Go.Proofs.Ytcddmggefmfkkaa
