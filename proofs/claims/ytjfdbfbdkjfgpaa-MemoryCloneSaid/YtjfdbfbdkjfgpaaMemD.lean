/- The walks of the package 'memory': Store. -/
import Derived.Test.YtjfdbfbdkjfgpaaMemC
import Derived.StillTailTactics
namespace Go.Proofs.Ytjfdbfbdkjfgpaa
open Go.RowKit Go.Deco Go.Maps

def storeErr (regs : List Reg) (a : Nat) (width : Int) : Nat :=
  if okWidth width = true then (match mappedReg regs a width.toNat with | none => 11 | some r => if r.wr = true then 0 else 12) else 2
def setBytes (M : Nat → Option Nat) (a x : Nat) : Nat → Nat → Option Nat
  | 0 => M
  | k + 1 => fun j => if j = a + k then some (x / 256 ^ k % 256) else setBytes M a x k j
def storeMap (regs : List Reg) (M : Nat → Option Nat) (a : Nat) (width : Int) (x : Nat) : Nat → Option Nat := if storeErr regs a width = 0 then setBytes M a x width.toNat else M

theorem byte_of (x j : Nat) : IntKind.u8.wrap ((x : Int) / 2 ^ (8 * (j : Int)).toNat) = ((x / 256 ^ j % 256 : Nat) : Int) := by
  have e : (2 : Int) ^ (8 * (j : Int)).toNat = ((256 ^ j : Nat) : Int) := by
    rw [show (8 * (j : Int)).toNat = 8 * j by omega, show (256 : Nat) = 2 ^ 8 from rfl, ← Nat.pow_mul]
    simp
  rw [e, IntKind.wrap_u8, ← Int.natCast_ediv]
  omega

def StorePost (w : World) (mb bm : Nat) (regs : List Reg) (M : Nat → Option Nat) (n : Nat) (er : Nat) (e : Ending) (w' : World) : Prop :=
  e = .returned (.int .i64 er) ∧ Mem w' mb bm regs M n ∧ w.grownBy w' (some bm)

set_option maxRecDepth 100000 in
set_option maxHeartbeats 1000000 in
theorem store_any (w : World) (mb bm n : Nat) (regs : List Reg) (M : Nat → Option Nat) (hm : Mem w mb bm regs M n) (hn : n ≤ 1000000) (a : Nat) (ha : a < 4294967296) (q : Int) (hq1 : -9223372036854775808 ≤ q) (hq2 : q ≤ 9223372036854775807) (x : Nat) :
    Calls Try.prog 14 #[.pointer (some ⟨mb, 0, none⟩), .int .u32 a, .int .i64 q, .int .u32 x] w (StorePost w mb bm regs (storeMap regs M a q x) (n + 4) (storeErr regs a q)) := by
  have HM := hid hm; clear hm
  go_enter Try.func14, Try.ntmps14
  go_wp2_with fail
  refine (made_any _ mb bm n regs M HM.out).mono ?_
  rintro e w' ⟨rfl, rfl⟩
  go_wp2_with fail
  refine (valid_any _ q).mono ?_
  rintro e w' ⟨rfl, rfl⟩
  obtain ⟨z, hz⟩ : ∃ z, okWidth q = z := ⟨_, rfl⟩
  rw [hz]
  have HZ := hid hz
  have same : ∀ w1 er, Ext w w1 → er ≠ 0 → storeErr regs a q = er → StorePost w mb bm regs (storeMap regs M a q x) (n + 4) (storeErr regs a q) (.returned (.int .i64 (er : Nat))) w1 := by
    intro w1 er he h0 hs
    refine ⟨by rw [hs], ?_, he.grownBy _⟩
    rw [storeMap, if_neg (by rw [hs]; exact h0)]
    exact (HM.out.ext he).mono (by omega)
  have SAME := hid same; clear same
  cases z with
  | false =>
    clear hz
    go_wp2
    go_ret
    exact SAME.out _ 2 (Ext.refl w) (by omega) (by rw [storeErr, if_neg (by simp [HZ.out])])
  | true =>
    have hw : q = 1 ∨ q = 2 ∨ q = 4 := by simpa [okWidth, or_assoc] using hz
    clear hz
    obtain ⟨k, hk, hk2⟩ : ∃ k : Nat, q = k ∧ 1 ≤ k ∧ k ≤ 4 := ⟨q.toNat, by omega, by omega, by omega⟩
    clear hw
    subst hk
    go_wp2_with fail
    refine (mapped_any w w (Ext.refl w) mb bm n regs M HM.out a ha k (by omega)).mono ?_
    rintro e w1 ⟨hx1, hp⟩
    have HE := hid hx1; clear hx1
    obtain ⟨o, ho⟩ : ∃ o, mappedReg regs a k = o := ⟨_, rfl⟩
    rw [ho] at hp
    cases o with
    | none =>
      subst hp
      have HO := hid ho; clear ho
      go_wp2
      go_ret
      exact SAME.out _ 11 (HE.out.alloc _) (by omega) (by rw [storeErr, if_pos HZ.out, Int.toNat_natCast, HO.out])
    | some r =>
      obtain ⟨dA, dc, rfl, hd, hs1, hs2⟩ := hp
      clear hd
      obtain ⟨hfr, hroom⟩ := mappedReg_some ho
      obtain ⟨hr1, hr2⟩ := findReg_has hfr
      have HO := hid ho; clear ho hfr
      obtain ⟨wr, hwr⟩ : ∃ b, r.wr = b := ⟨_, rfl⟩
      rw [hwr]
      have HWR := hid hwr; clear hwr
      cases wr with
      | false =>
        go_wp2
        go_ret
        exact SAME.out _ 12 (HE.out.alloc _) (by omega) (by rw [storeErr, if_pos HZ.out, Int.toNat_natCast, HO.out]; simp [HWR.out])
      | true =>
        have HS0 := hid (show storeErr regs a k = 0 by rw [storeErr, if_pos HZ.out, Int.toNat_natCast, HO.out]; simp [HWR.out])
        go_wp2
        go_loopw [33] (fun i wr => ∃ j : Nat, j ≤ k ∧ i = .int .i64 j ∧ Hid (Mem wr mb bm regs (setBytes M a x j) (n + j)) ∧ Hid (w.grownBy wr (some bm))) (fun i _ => k - (intOf i).toNat)
        case atStart => exact ⟨0, by omega, rfl, hid (HM.out.ext (HE.out.alloc _)), hid ((HE.out.alloc _).grownBy _)⟩
        case round =>
          obtain ⟨j, hj, rfl, hmm, hg⟩ := hrel
          by_cases h1 : j < k
          · obtain ⟨rA, rc, D, q0, q1, q2, q3, q4⟩ := hmm.out
            have HQ := hid (And.intro q0 (And.intro q2 (And.intro q3 q4)))
            clear q0 q2 q3 q4 hmm
            go_wp2_with fail
            have h8 : (0 : Int) ≤ 8 * (j : Int) := by omega
            have e1 : IntKind.i64.wrap (8 * (j : Int)) = 8 * (j : Int) := IntWalk.i64_in _ (by omega)
            have e2 : IntKind.u32.wrap (j : Int) = (j : Int) := IntWalk.u32_in _ (by omega)
            have e3 : IntKind.u32.wrap ((a : Int) + (j : Int)) = (a : Int) + (j : Int) := IntWalk.u32_in _ (by omega)
            go_still_tail 13, (by kernel_rfl)
            change wpList _ _ _ _ _ wr.drew
            obtain ⟨q0, q2, q3, q4⟩ := HQ.out
            refine wpList_mapUpdate_own _ rfl _ _ _ 61 rfl 23 5 law32 Try.underlying61 _ bm (n + j) D rfl q3.drew (by unfold maxLen; omega) _ _ _ rfl rfl (keyOf_int_mk Try.underlying23 (WalkArith.wf_u32 (by omega))) (.lit (.int .u8 ((x / 256 ^ j % 256 : Nat) : Int))) [] (by rw [byte_of]; exact plainElem_int Try.underlying5 (WalkArith.wf_u8 (by omega))) ?_
            intro w2 hown2 hg2
            have HOWN := hid hown2
            have HG := hid hg2
            clear hown2 hg2 e1 e2 e3 q0 q2 q3 q4
            go_wp2
            go_roundw
            case rel =>
              refine ⟨j + 1, by omega, by go_num, hid ?_, hid ?_⟩
              · obtain ⟨q0, q2, q3, q4⟩ := HQ.out
                have ho := HOWN.out
                rw [show ((a : Int) + (j : Int)) = ((a + j : Nat) : Int) by simp] at ho
                exact MemAt.put law32 q0 q1 q2 q3 q4 (grownBy_drew HG.out) ho
              · exact grownBy_same hg.out (grownBy_drew HG.out)
            case measure => simp [intOf]; omega
          · obtain rfl : k = j := by omega
            go_wp2
            go_ret
            refine ⟨by rw [HS0.out]; rfl, ?_, hg.out⟩
            rw [storeMap, if_pos HS0.out, Int.toNat_natCast]
            exact hmm.out.mono (by omega)
end Go.Proofs.Ytjfdbfbdkjfgpaa
