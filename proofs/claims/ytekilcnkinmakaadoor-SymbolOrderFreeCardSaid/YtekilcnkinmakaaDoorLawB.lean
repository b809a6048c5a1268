/- decompilerref06.Words: whether two lists of numbers are the same. -/
import Derived.Test.YtekilcnkinmakaaDoorRows
import Derived.Test.YtekilcnkinmakaaDoorSpecSec
import Derived.BigQuiet
namespace Go.Proofs.YtekilcnkinmakaaDoor
open Go.RowKit Go.Deco

def OneBool (w : World) (b : Bool) (e : Ending) (w' : World) : Prop := e = .returned (.bool b) ∧ Ext w w'

set_option maxRecDepth 100000 in
set_option maxHeartbeats 1000000 in
theorem words_any (wo w : World) (ho : Ext wo w) (A B : Option Addr) (n m c d : Nat) (l r : List Nat) (hl : Sl u32R wo All (.slice A n c) l) (hr : Sl u32R wo All (.slice B m d) r) :
    Calls Tryd.prog 19 #[.slice A n c, .slice B m d] w (OneBool w (decide (l = r))) := by
  have hln := hl.len
  have hrn := hr.len
  obtain ⟨hnc, hcm⟩ := hl.cap
  obtain ⟨hmc, hdm⟩ := hr.cap
  obtain ⟨z, hz⟩ : ∃ z, decide (l = r) = z := ⟨_, rfl⟩
  rw [hz]
  have HZ := hid hz; clear hz
  have HS := hid hl; clear hl
  have HR := hid hr; clear hr
  have HLL := hid hln; clear hln
  have HRL := hid hrn; clear hrn
  have HO := hid ho; clear ho
  go_enter Tryd.func19, Tryd.ntmps19
  by_cases hnm : n = m
  · subst hnm
    have hne : ((n : Int) != (n : Int)) = false := by simp
    go_wp2
    go_loopw [5] (fun i wr => ∃ k : Nat, k ≤ n ∧ i = .int .i64 k ∧ Hid (Ext w wr) ∧ Hid (l.take k = r.take k)) (fun i _ => n - (intOf i).toNat)
    case atStart => exact ⟨0, by omega, rfl, hid (Ext.refl w), hid rfl⟩
    case round =>
      obtain ⟨k, hk, rfl, he, ht⟩ := hrel
      by_cases h1 : k < n
      · obtain ⟨x, hx⟩ : ∃ x, l[k]? = some x := ⟨_, List.getElem?_eq_getElem (by have := HLL.out; omega)⟩
        obtain ⟨y, hy⟩ : ∃ y, r[k]? = some y := ⟨_, List.getElem?_eq_getElem (by have := HRL.out; omega)⟩
        obtain ⟨gb, off, rfl, cc, hlt⟩ := HS.out.num_at hx
        obtain ⟨gb2, off2, rfl, cc2, hlt2⟩ := HR.out.num_at hy
        have cc := (HO.out.trans he.out).cell cc
        have cc2 := (HO.out.trans he.out).cell cc2
        have HX := hid hx; clear hx
        have HY := hid hy; clear hy
        by_cases hxy : x = y
        · subst hxy
          have hne2 : ((x : Int) != (x : Int)) = false := by simp
          go_wp2
          go_quiet (fail)
          go_wp2
          go_roundw
          case rel => exact ⟨k + 1, by omega, by go_num, hid (he.out.drewN _), hid (by
            rw [take_snoc' HX.out, take_snoc' HY.out, ht.out])⟩
          case measure => simp [intOf]; omega
        · have hne2 : ((x : Int) != (y : Int)) = true := by simp; omega
          go_wp2
          go_quiet (fail)
          go_wp2
          go_ret
          refine ⟨ret_bool ?_, he.out.drewN _⟩
          rw [← HZ.out]
          refine (decide_eq_false fun h => hxy ?_).symm
          have h1 := HX.out
          rw [h, HY.out] at h1
          exact (Option.some.inj h1).symm
      · obtain rfl : k = n := by omega
        go_wp2
        go_ret
        refine ⟨ret_bool ?_, he.out⟩
        rw [← HZ.out]
        have h3 := ht.out
        rw [List.take_of_length_le (by have := HLL.out; omega), List.take_of_length_le (by have := HRL.out; omega)] at h3
        exact (decide_eq_true h3).symm
  · have hne : ((n : Int) != (m : Int)) = true := by simp; omega
    go_wp2
    go_ret
    refine ⟨ret_bool ?_, Ext.refl w⟩
    rw [← HZ.out]
    refine (decide_eq_false fun h => hnm ?_).symm
    rw [HLL.out, HRL.out, h]
end Go.Proofs.YtekilcnkinmakaaDoor
