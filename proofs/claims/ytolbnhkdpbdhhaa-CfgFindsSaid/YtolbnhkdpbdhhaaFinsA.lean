/- CfgFinds: BlockAt and Predecessors return what the reference returns: the law's walk. -/
import Derived.Test.YtolbnhkdpbdhhaaL17B
import Derived.Test.YtolbnhkdpbdhhaaEdgA
namespace Go.Proofs.Ytolbnhkdpbdhhaa
open Go.RowKit Go.Deco
set_option linter.unusedSimpArgs false
set_option linter.unusedVariables false
set_option maxRecDepth 100000

set_option maxHeartbeats 4000000 in
theorem finds_any (w : World) (A : Option Addr) (n c : Nat) (l : List Bs) (hl : Sl bsR w All (.slice A n c) l) (a : Nat) (k : Int) :
    Calls Try.prog 6 #[.slice A n c, .int .u32 a, .int .i64 k] w (OneBool w true) := by
  have hcap := hl.cap
  have HS := hid hl
  have HLN := hid hl.len
  clear hl
  go_enter Try.func6, Try.ntmps6
  by_cases hn : 400 < n
  · go_wp2_with fail
    refine (example_any _).mono ?_
    rintro e wz ⟨rfl, hxz⟩
    have HXZ := hid hxz; clear hxz
    go_wp2
    go_ret
    exact ⟨rfl, HXZ.out⟩
  obtain ⟨⟨p, ok⟩, hat⟩ : ∃ r, atBs l a = r := ⟨_, rfl⟩
  have HA1 := hid (fun W (h : Ext w W) => blockat_any W A n c l (HS.out.ext h) a)
  have HA2 := hid (fun W B m d (h : Sl bsR W All (.slice B m d) l) => rblockat_any W B m d l h a)
  obtain ⟨m, hm⟩ : ∃ m, predsOf l k = m := ⟨_, rfl⟩
  have HP1 := hid (fun W (h : Ext w W) => preds_any W A n c l (HS.out.ext h) (by omega) k)
  have HP2 := hid (fun W B d (h : Sl bsR W All (.slice B n d) l) => rpreds_any W B n d l h (by omega) k)
  have HB := hid (fun W (h : Ext w W) => lblks_any W A n c l (HS.out.ext h) (by omega))
  rw [hat] at HA1 HA2
  rw [hm] at HP1 HP2
  have hpp : ((p : Int) != (p : Int)) = false := by simp
  have hkk : (ok != ok) = false := by simp
  clear hat hm
  go_wp2_with fail
  refine (HA1.out w (Ext.refl w)).mono ?_
  rintro e w1 ⟨rfl, hx1⟩
  have HX1 := hid hx1
  clear hx1
  go_wp2_with fail
  refine (HB.out w1 HX1.out).mono ?_
  rintro e w2 ⟨hx2, B2, c2, rfl, hs2⟩
  have HX2 := hid (HX1.out.trans hx2)
  rw [← HLN.out] at hs2 ⊢
  have HS2 := hid hs2
  clear hx2 hs2
  go_wp2_with fail
  refine (HA2.out w2 B2 n c2 HS2.out).mono ?_
  rintro e w3 ⟨rfl, hw3⟩
  subst hw3
  go_wp2_with fail
  refine (HP1.out _ HX2.out).mono ?_
  rintro e w4 ⟨hx4, A4, c4, rfl, hs4⟩
  have HX4 := hid (HX2.out.trans hx4)
  have HS4 := hid hs4
  clear hx4 hs4
  go_wp2_with fail
  refine (HB.out _ HX4.out).mono ?_
  rintro e w5 ⟨hx5, B5, c5, rfl, hs5⟩
  have HX5 := hid (HX4.out.trans hx5)
  have HS45 := hid (HS4.out.ext hx5)
  rw [← HLN.out] at hs5 ⊢
  have HS5 := hid hs5
  clear hx5 hs5
  go_wp2_with fail
  refine (HP2.out _ B5 c5 HS5.out).mono ?_
  rintro e w6 ⟨hx6, A6, c6, rfl, hs6⟩
  have HX6 := hid (HX5.out.trans hx6)
  have HS46 := hid (HS45.out.ext hx6)
  have HS6 := hid hs6
  have hca := HS46.out.cap
  have hcb := HS6.out.cap
  obtain ⟨M, hM⟩ : ∃ M, m.length = M := ⟨_, rfl⟩
  rw [hM] at HS46 HS6 hca hcb ⊢
  have HM := hid hM
  have hmm : ((M : Int) != (M : Int)) = false := by simp
  clear hx6 hs6 hM
  go_wp2
  go_loopw [13] (fun i wr => ∃ j : Nat, j ≤ M ∧ i = .int .i64 j ∧ Hid (Ext w6 wr)) (fun i _ => M - (intOf i).toNat)
  case atStart => exact ⟨0, by omega, rfl, hid (Ext.refl _)⟩
  case round =>
    obtain ⟨j, hj, rfl, HX⟩ := hrel
    by_cases h1 : j < M
    · obtain ⟨x, hx⟩ : ∃ x, m[j]? = some x := ⟨_, List.getElem?_eq_getElem (by have := HM.out; omega)⟩
      obtain ⟨b, o, rfl, e1, -⟩ := i64_at (HS46.out.ext HX.out) hx
      obtain ⟨b', o', rfl, e2, -⟩ := i64_at (HS6.out.ext HX.out) hx
      have hxx : (x != x) = false := by simp
      clear hx
      go_wp2
      go_quiet (fail)
      go_wp2
      first
        | go_roundw
        | refine ⟨?rel, ?measure⟩
      case rel => exact ⟨j + 1, by omega, by go_num, hid (HX.out.drewN _)⟩
      case measure => simp [intOf]; omega
    · obtain rfl : j = M := by omega
      have HX9 := hid (HX6.out.trans HX.out)
      go_wp2_with fail
      refine (example_any _).mono ?_
      rintro e wz ⟨rfl, hxz⟩
      have HXZ := hid hxz; clear hxz
      go_wp2
      go_ret
      exact ⟨rfl, HX9.out.trans HXZ.out⟩
end Go.Proofs.Ytolbnhkdpbdhhaa
