/- The examples of chapter 34, computed. No program in sight. The helpers of the laws of chapter 34: SameInts, program. The helpers of the laws of chapter 34: typeParts, small. -/
import Derived.Test.YtacmjhcfjhpkeaaGreatDoorSglm
import Derived.Test.YtacmjhcfjhpkeaaGreatDoorTxpm
import Derived.Test.YtacmjhcfjhpkeaaGreatDoorPlam
import Derived.Test.YtacmjhcfjhpkeaaGreatDoorMpcm
namespace Go.Deco
open Go Go.RowKit
def exA : List Acc := [⟨0, 8, 1, true⟩, ⟨0, 0, 4, false⟩]
def exB : List Acc := [⟨0, 0, 2, false⟩, ⟨0, 2, 2, false⟩, ⟨0, 4, 2, false⟩]
def exC : List Acc := [⟨0, 0, 4, false⟩, ⟨0, 8, 4, false⟩, ⟨0, 2, 2, false⟩]
def exD : List Acc := [⟨0, 0, 4, false⟩, ⟨0, 16, 4, false⟩, ⟨0, 8, 1, false⟩]
def exE : Ty := Ty.str [(0, Ty.int 4)]
def exF : Ty := Ty.str [(4, Ty.int 4)]
def tyA : Ty := Ty.str [(0, Ty.uint 4), (8, Ty.int 1)]
def tyB : Ty := Ty.arr (Ty.uint 2) 3
def tyC : Ty := Ty.str [(0, Ty.arr (Ty.uint 1) 4), (8, Ty.uint 4)]
def tyD : Ty := Ty.arr (Ty.int 4) 2
theorem ex_a : layoutA exA = (tyA, 0) := by kernel_rfl
theorem ex_b : layoutA exB = (tyB, 0) := by kernel_rfl
theorem ex_c : layoutA exC = (tyC, 0) := by kernel_rfl
theorem ex_e : mergeT exE exF = (tyD, 0) := by kernel_rfl
theorem ex_f : conflA exC = [0, 2] := by kernel_rfl
theorem ex_pa : printT tyA = [123, 48, 58, 32, 117, 105, 110, 116, 51, 50, 44, 32, 56, 58, 32, 105, 110, 116, 56, 125] := by kernel_rfl
theorem ex_pb : printT tyB = [91, 51, 93, 117, 105, 110, 116, 49, 54] := by kernel_rfl
theorem ex_pc : printT tyC = [123, 48, 58, 32, 91, 52, 93, 117, 105, 110, 116, 56, 44, 32, 56, 58, 32, 117, 105, 110, 116, 51, 50, 125] := by kernel_rfl
theorem ex_pd : printT tyD = [91, 50, 93, 105, 110, 116, 51, 50] := by kernel_rfl
theorem ex_n : (nameT tyA).length = 10 := by kernel_rfl
theorem ex_nod : nodT tyA ≤ 1000000 ∧ nodT tyB ≤ 1000000 ∧ nodT tyC ≤ 1000000 ∧ nodT tyD ≤ 1000000 := by decide
end Go.Deco

namespace Go.Proofs.YtacmjhcfjhpkeaaGreatDoor
open Go.RowKit Go.Deco
set_option linter.unusedSimpArgs false
set_option linter.unusedVariables false
theorem take_ne {L M : List Nat} {k x y : Nat} (hx : L[k]? = some x) (hy : M[k]? = some y) (h : x ≠ y) : L ≠ M := fun e => by rw [e, hy] at hx; exact h (Option.some.inj hx).symm
theorem take_eq {L M : List Nat} {k x : Nat} (h : L.take k = M.take k) (hx : L[k]? = some x) (hy : M[k]? = some x) : L.take (k + 1) = M.take (k + 1) := by
 rw [List.take_add_one, List.take_add_one, h, hx, hy]
set_option maxRecDepth 100000 in
set_option maxHeartbeats 4000000 in
theorem sameints_any (w : World) (A B : Option Addr) (n c m e : Nat) (L M : List Nat) (hl : Sl offR w All (.slice A n c) L) (hm : Sl offR w All (.slice B m e) M) :
  Calls Tryz.prog 29 #[.slice A n c, .slice B m e] w (TBool w (decide (L = M))) := by
 have HLN := hid hl.len
 have HMN := hid hm.len
 have HL := hid hl
 have HM := hid hm
 obtain ⟨z, hz⟩ : ∃ z, decide (L = M) = z := ⟨_, rfl⟩
 rw [hz]
 have HZ := hid hz
 have hnm : n ≤ 9223372036854775807 := by have := hl.cap; omega
 clear hl hm hz
 by_cases h0 : n = m
 case neg =>
  have g0 : ((n : Int) != (m : Int)) = true := by simp; omega
  obtain rfl : z = false := by
   rw [← HZ.out]
   exact decide_eq_false fun e => h0 (by rw [HLN.out, HMN.out, e])
  clear h0
  go_enter Tryz.func29, Tryz.ntmps29
  go_wp2
  go_ret
  exact ⟨rfl, Ext.refl _⟩
 subst h0
 have g0 : ((n : Int) != (n : Int)) = false := by simp
 go_enter Tryz.func29, Tryz.ntmps29
 go_wp2
 clear g0
 go_loopw [5] (fun i wr => ∃ k : Nat, k ≤ n ∧ i = .int .i64 k ∧ Hid (L.take k = M.take k) ∧ Hid (Ext w wr)) (fun i _ => n - (intOf i).toNat)
 case atStart => exact ⟨0, by omega, rfl, hid (by simp), hid (Ext.refl _)⟩
 case round =>
  obtain ⟨k, hk, rfl, HT, HX⟩ := hrel
  by_cases h1 : k < n
  ·obtain ⟨x, hx⟩ : ∃ x, L[k]? = some x := ⟨_, List.getElem?_eq_getElem (by have := HLN.out; omega)⟩
   obtain ⟨y, hy⟩ : ∃ y, M[k]? = some y := ⟨_, List.getElem?_eq_getElem (by have := HMN.out; omega)⟩
   obtain ⟨b1, o1, rfl, c1, hx1⟩ := (HL.out.ext HX.out).num_at hx
   obtain ⟨b2, o2, rfl, c2, hy1⟩ := (HM.out.ext HX.out).num_at hy
   have hkn : (k : Int) < (n : Int) := by omega
   have HXX := hid hx
   have HYY := hid hy
   clear hx hy
   go_wp2_with fail
   refine wp_region_held_drew (S := (fun w' => w'.cell? ⟨b1, o1 + k, none⟩ = some (.int .i64 x) ∧ w'.cell? ⟨b2, o2 + k, none⟩ = some (.int .i64 y))) (by kernel_rfl) ⟨c1, c2⟩ (fun hSg76q0 => ?_)
   refine rgT6 0 1 2 3 4 5 ?_
   refine rgT3 6 7 8 ?_
   refine wpAnyH_done (by kernel_rfl) ?_ _
   clear c1 c2
   by_cases h2 : x = y
   ·have g2 : ((x : Int) != (y : Int)) = false := by simp; omega
    have HT2 : Hid (L.take (k + 1) = M.take (k + 1)) := hid (take_eq HT.out HXX.out (by rw [h2]; exact HYY.out))
    clear h2
    go_wp2
    first
     | go_roundw
     | refine ⟨?rel, ?measure⟩
    case rel => exact ⟨k + 1, by omega, by go_num, HT2, hid HX.out.drew⟩
    case measure => simp [intOf]; omega
   ·have g2 : ((x : Int) != (y : Int)) = true := by simp; omega
    obtain rfl : z = false := by
     rw [← HZ.out]
     exact decide_eq_false (take_ne HXX.out HYY.out h2)
    clear h2
    go_wp2
    go_ret
    exact ⟨rfl, HX.out.drew⟩
  ·have hkn : ¬ (k : Int) < (n : Int) := by omega
   obtain rfl : z = true := by
    rw [← HZ.out]
    have h := HT.out
    rw [List.take_of_length_le (by have := HLN.out; omega), List.take_of_length_le (by have := HMN.out; omega)] at h
    exact decide_eq_true h
   go_wp2
   go_ret
   exact ⟨rfl, HX.out⟩
theorem info_sacc : (Tryz.prog.info? 59).map (fun i => (i.zero, i.size, i.bytes)) = some (some (.agg #[.int .i64 0, .int .i64 0, .int .i64 0, .bool false]), 4, 32) := by kernel_rfl
/-- The accesses, copied into a row of their own. -/
def ProgIs (w : World) (l : List Acc) (e : Ending) (w' : World) : Prop := ∃ A c, e = .returned (.slice A l.length c) ∧ Sl accR w' All (.slice A l.length c) l ∧ Ext w w'
set_option maxRecDepth 100000 in
set_option maxHeartbeats 4000000 in
theorem lprog_any (w : World) (A : Option Addr) (n c : Nat) (l : List Acc) (hl : Sl accR w All (.slice A n c) l) (hn : n ≤ 1000) :
  Calls Tryz.prog 16 #[.slice A n c] w (ProgIs w l) := by
 have HLN := hid hl.len
 have HL := hid hl
 obtain ⟨j0, hj, hj0, hj1, hj2⟩ := info_parts info_sacc
 have HJ := hid hj
 have HJ0 := hid hj0
 have HJ1 := hid hj1
 have HJ2 := hid hj2
 clear hj hj0 hj1 hj2 hl
 unfold ProgIs
 rw [← HLN.out]
 go_enter Tryz.func16, Tryz.ntmps16
 go_wp2
 go_loopw [4, 3] (fun i s3 wr => ∃ (k : Nat) (A2 : Option Addr) (c2 : Nat), k ≤ n ∧ i = .int .i64 k ∧ s3 = .slice A2 k c2 ∧ Hid (OwnS accR wr w.heap.size 59 All (.slice A2 k c2) (l.take k)) ∧ Hid (Ext w wr)) (fun i _ _ => n - (intOf i).toNat)
 case atStart => exact ⟨0, none, 0, by omega, rfl, rfl, hid OwnS.nil, hid (Ext.refl _)⟩
 case round =>
  obtain ⟨k, A2, c2, hk, rfl, rfl, HO, HX⟩ := hrel
  by_cases h1 : k < n
  ·obtain ⟨x, hx⟩ : ∃ x, l[k]? = some x := ⟨_, List.getElem?_eq_getElem (by have := HLN.out; omega)⟩
   obtain ⟨b, off, rfl, x0, x1, x2, x3, hi0, hi1, hi2⟩ := (HL.out.ext HX.out).acc_at hx
   have hkn : (k : Int) < (n : Int) := by omega
   have HTK := hid (take_snoc' hx)
   have HKL : Hid ((l.take k).length = k) := hid (by rw [List.length_take]; have := HLN.out; omega)
   have HII := hid (And.intro hi0 (And.intro hi1 hi2))
   have HCW : Hid (∀ W, Ext w W → W.cell? ⟨b, off + k * 4, none⟩ = some (.int .i64 x.base) ∧ W.cell? ⟨b, off + k * 4 + 1, none⟩ = some (.int .i64 x.off) ∧ W.cell? ⟨b, off + k * 4 + 2, none⟩ = some (.int .i64 x.width) ∧ W.cell? ⟨b, off + k * 4 + 3, none⟩ = some (.bool x.sgn)) := hid (by
    obtain ⟨b9, off9, hbo, z0, z1, z2, z3, -⟩ := HL.out.acc_at hx
    obtain ⟨rfl, rfl⟩ : b = b9 ∧ off = off9 := by simpa using hbo
    exact fun W hW => ⟨hW.cell z0, hW.cell z1, hW.cell z2, hW.cell z3⟩)
   have hws : w.heap.size ≤ wr.heap.size := HX.out.size
   clear hx hi0 hi1 hi2
   go_wp2_with fail
   refine wp_region_held_drew (S := (fun w' => w'.cell? ⟨b, off + k * 4, none⟩ = some (.int .i64 x.base) ∧ w'.cell? ⟨b, off + k * 4 + 1, none⟩ = some (.int .i64 x.off) ∧ w'.cell? ⟨b, off + k * 4 + 2, none⟩ = some (.int .i64 x.width) ∧ w'.cell? ⟨b, off + k * 4 + 3, none⟩ = some (.bool x.sgn))) (by kernel_rfl) ⟨x0, x1, x2, x3⟩ (fun hSg77q0 => ?_)
   refine rgT6 0 1 2 3 4 5 ?_
   refine rgT6 6 7 8 9 10 11 ?_
   refine rgT6 12 13 14 15 16 17 ?_
   refine rgT4 18 19 20 21 ?_
   refine rgC 22 (fun K hK => ?_)
   go_simp
   have HE5 := hid (((Ext.refl wr).drew).alloc (.cells #[.int .i64 x.base, .int .i64 x.off, .int .i64 x.width, .bool x.sgn] 59))
   refine rgK hK ⟨HE5.out.cell x0, HE5.out.cell x1, HE5.out.cell x2, HE5.out.cell x3⟩ (fun hSg77q1 => ?_)
   clear hK K
   refine rgC 23 (fun K hK => ?_)
   refine step_app1l rfl (.tmp 11) (.tmp 33) 31 rfl w.heap.size 59 j0 _ 4 32 Tryz.underlying31 HJ.out HJ0.out HJ1.out HJ2.out rfl accR rfl (.slice A2 k c2) (l.take k) rfl HO.out.dr x rfl ⟨rfl, HII.out⟩ (by rw [HKL.out]; omega) (by rw [HKL.out]; omega) (by exact hws) ?_
   intro A9 c9 w9 hown9 hg9 hloc9
   rw [HKL.out, ← HTK.out] at hown9
   have HO9 := hid hown9
   have HX9 := hid ((HX.out.drew.alloc _).grown hg9 (fun q hq => (HO.out.block q hq).1))
   rw [HKL.out]
   clear hown9 hg9 hloc9
   refine rgK hK (HCW.out _ HX9.out) (fun hSg77q2 => ?_)
   clear hK K
   refine rgT 24 ?_
   refine wpAnyH_done (by kernel_rfl) ?_ _
   clear x0 x1 x2 x3
   go_wp2
   first
    | go_roundw
    | refine ⟨?rel, ?measure⟩
   case rel => exact ⟨k + 1, A9, c9, by omega, by go_num, rfl, HO9, HX9⟩
   case measure => simp [intOf]; omega
  ·have hkn : ¬ (k : Int) < (n : Int) := by omega
   obtain rfl : n = k := by omega
   have hs := HO.out.sl
   rw [List.take_of_length_le (by have := HLN.out; omega)] at hs
   have HS := hid hs
   clear hs
   go_wp2
   go_ret
   exact ⟨A2, c2, rfl, HS.out, HX.out⟩
end Go.Proofs.YtacmjhcfjhpkeaaGreatDoor

namespace Go.Proofs.YtacmjhcfjhpkeaaGreatDoor
open Go.RowKit Go.Deco
set_option linter.unusedSimpArgs false
set_option linter.unusedVariables false
end Go.Proofs.YtacmjhcfjhpkeaaGreatDoor
