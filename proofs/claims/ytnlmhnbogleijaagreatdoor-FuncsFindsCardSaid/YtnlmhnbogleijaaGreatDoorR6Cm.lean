/- decompilerref06: Hex, Name, Functions. -/
import Derived.Test.YtnlmhnbogleijaaGreatDoorR6Bm
import Derived.Test.YtnlmhnbogleijaaGreatDoorHex
import Derived.Test.YtnlmhnbogleijaaGreatDoorStr
namespace Go.Proofs.YtnlmhnbogleijaaGreatDoor
open Go.RowKit Go.Deco
set_option linter.unusedSimpArgs false
set_option linter.unusedVariables false

theorem hexsl_run (d : Nat) (hd : d < 16) : ∀ w, (Instr.sliceAt 9 (.string { data := #[48, 49, 50, 51, 52, 53, 54, 55, 56, 57, 97, 98, 99, 100, 101, 102] }) (some (.int .u32 d)) (some (.int .u32 ((d : Int) + 1))) none).run Tryz.prog w = .ok (.string (strOf [hexc d])) w := by
  intro w
  obtain rfl | rfl | rfl | rfl | rfl | rfl | rfl | rfl | rfl | rfl | rfl | rfl | rfl | rfl | rfl | rfl : d = 0 ∨ d = 1 ∨ d = 2 ∨ d = 3 ∨ d = 4 ∨ d = 5 ∨ d = 6 ∨ d = 7 ∨ d = 8 ∨ d = 9 ∨ d = 10 ∨ d = 11 ∨ d = 12 ∨ d = 13 ∨ d = 14 ∨ d = 15 := by omega
  all_goals kernel_rfl
def StrSame (w : World) (s : ByteArray) (e : Ending) (w' : World) : Prop := e = .returned (.string s) ∧ w = w'

set_option maxRecDepth 100000 in
set_option maxHeartbeats 1000000 in
theorem hex6_any (w : World) (n : Nat) (hn : n < 4294967296) : Calls Tryz.prog 42 #[.int .u32 n] w (StrSame w (hexS n)) := by
  obtain ⟨L, hL⟩ : ∃ L, hexD n = L := ⟨_, rfl⟩
  unfold hexS
  rw [hL]
  have HL := hid hL
  clear hL
  go_enter Tryz.func42, Tryz.ntmps42
  go_wp2
  go_loop [0, 3] (fun u s => ∃ (x f : Nat) (D : List Nat), u = .int .u32 x ∧ s = .string (strOf D) ∧ x < 4294967296 ∧ f + D.length = 8 ∧ Hid (x < 16 ^ f) ∧ Hid (hexN f x ++ D = L)) (fun u _ => (intOf u).toNat)
  case atStart => exact ⟨n, 8, [], rfl, rfl, hn, rfl, hid (by simpa using hn), hid (by rw [List.append_nil]; exact HL.out)⟩
  case round =>
    obtain ⟨x, f, D, rfl, rfl, hx, hfD, HF, HN⟩ := hrel
    obtain ⟨S, hS⟩ : ∃ S, strOf D = S := ⟨_, rfl⟩
    have hSz : S.size ≤ 8 := by rw [← hS, strOf_size]; omega
    rw [hS]
    have HSS := hid hS
    clear hS
    by_cases h : 16 ≤ x
    · obtain ⟨g, hg, hN, hxg⟩ := hexN_more h HF.out
      obtain ⟨d, hd⟩ : ∃ d, x % 16 = d := ⟨_, rfl⟩
      have hd' : (x : Int) % 16 = (d : Int) := by omega
      have hdl : d < 16 := by omega
      have hdr := hexsl_run d hdl
      rw [hd] at hN
      obtain ⟨P, hP⟩ : ∃ P, strOf [hexc d] = P := ⟨_, rfl⟩
      have hPz : P.size = 1 := by rw [← hP, strOf_size]; rfl
      have k1 : ¬ 9223372036854775807 < P.size + S.size := by omega
      have hap : P ++ S = strOf (hexc d :: D) := by rw [← hP, ← HSS.out, strOf_app]; rfl
      rw [hP] at hdr
      have HAP := hid hap
      have HN2 := hid hN
      have HXG := hid hxg
      have HG := hid hg
      clear hN hxg hg hap hP hPz hd
      go_wp2
      go_round
      case rel =>
        have hg := HG.out
        refine ⟨x / 16, g, hexc d :: D, by first | rfl | go_num, by rw [HAP.out], by omega, by simp; omega, HXG, hid ?_⟩
        have := HN.out
        rw [HN2.out] at this
        simpa using this
      case measure => simp [intOf]; omega
    · have hdl : x < 16 := by omega
      have hdr := hexsl_run x hdl
      obtain ⟨P, hP⟩ : ∃ P, strOf [hexc x] = P := ⟨_, rfl⟩
      have hPz : P.size = 1 := by rw [← hP, strOf_size]; rfl
      rw [hP] at hdr
      have k0 : ¬ 9223372036854775807 < 2 + P.size := by omega
      have k1 : ¬ 9223372036854775807 < ((⟨#[48, 120]⟩ : ByteArray) ++ P).size + S.size := by
        rw [ByteArray.size_append]
        have : (⟨#[48, 120]⟩ : ByteArray).size = 2 := rfl
        omega
      have k2 : ¬ 9223372036854775807 < 2 + P.size + S.size := by omega
      have hz : (⟨#[48, 120]⟩ : ByteArray) ++ P ++ S = strOf (48 :: 120 :: L) := by
        rw [← hP, ← HSS.out, ← HN.out, hexN_one hdl, show (⟨#[48, 120]⟩ : ByteArray) = strOf [48, 120] from rfl, strOf_app, strOf_app]
        rfl
      have HZ := hid hz
      clear hz hP hPz
      go_wp2
      go_ret
      exact ⟨by rw [HZ.out]; rfl, rfl⟩


end Go.Proofs.YtnlmhnbogleijaaGreatDoor
