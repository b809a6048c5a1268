/- The helpers of the laws of chapter 34: SameInts, program. The helpers of the laws of chapter 34: typeParts, small. The examples of chapter 34, computed. No program in sight. -/
import Derived.Test.YtacmjhcfjhpkeaaGreatDoorMpcm
import Derived.Test.YtacmjhcfjhpkeaaGreatDoorTxpm
import Derived.Test.YtacmjhcfjhpkeaaGreatDoorSglm
import Derived.Test.YtacmjhcfjhpkeaaGreatDoorPlam
namespace Go.Proofs.YtacmjhcfjhpkeaaGreatDoor
open Go.RowKit Go.Deco
set_option linter.unusedSimpArgs false
set_option linter.unusedVariables false
theorem take_ne {L M : List Nat} {k x y : Nat} (hx : L[k]? = some x) (hy : M[k]? = some y) (h : x ≠ y) : L ≠ M := fun e => by rw [e, hy] at hx; exact h (Option.some.inj hx).symm
theorem take_eq {L M : List Nat} {k x : Nat} (h : L.take k = M.take k) (hx : L[k]? = some x) (hy : M[k]? = some x) : L.take (k + 1) = M.take (k + 1) := by
 rw [List.take_add_one, List.take_add_one, h, hx, hy]
set_option maxRecDepth 100000 in
set_option maxHeartbeats 4000000 in
theorem sameints_any (w : World) (A B : Option Addr) (n c m e : Nat) (L M : List Nat) (hl : Sl offR w All (.slice A n c) L) (hm : Sl offR w All (.slice B m e) M) :
  Calls Tryz.prog 29 #[.slice A n c, .slice B m e] w (TBool w (decide (L = M))) := by
 have HLN := hid hl.len
 have HMN := hid hm.len
 have HL := hid hl
 have HM := hid hm
 obtain ⟨z, hz⟩ : ∃ z, decide (L = M) = z := ⟨_, rfl⟩
 rw [hz]
 have HZ := hid hz
 have hnm : n ≤ 9223372036854775807 := by have := hl.cap; omega
 clear hl hm hz
 by_cases h0 : n = m
 case neg =>
  have g0 : ((n : Int) != (m : Int)) = true := by simp; omega
  obtain rfl : z = false := by
   rw [← HZ.out]
   exact decide_eq_false fun e => h0 (by rw [HLN.out, HMN.out, e])
  clear h0
  go_enter Tryz.func29, Tryz.ntmps29
  go_wp2
  go_ret
  exact ⟨rfl, Ext.refl _⟩
 subst h0
 have g0 : ((n : Int) != (n : Int)) = false := by simp
 go_enter Tryz.func29, Tryz.ntmps29
 go_wp2
 clear g0
 go_loopw [5] (fun i wr => ∃ k : Nat, k ≤ n ∧ i = .int .i64 k ∧ Hid (L.take k = M.take k) ∧ Hid (Ext w wr)) (fun i _ => n - (intOf i).toNat)
 case atStart => exact ⟨0, by omega, rfl, hid (by simp), hid (Ext.refl _)⟩
 case round =>
  obtain ⟨k, hk, rfl, HT, HX⟩ := hrel
  by_cases h1 : k < n
  ·obtain ⟨x, hx⟩ : ∃ x, L[k]? = some x := ⟨_, List.getElem?_eq_getElem (by have := HLN.out; omega)⟩
   obtain ⟨y, hy⟩ : ∃ y, M[k]? = some y := ⟨_, List.getElem?_eq_getElem (by have := HMN.out; omega)⟩
   obtain ⟨b1, o1, rfl, c1, hx1⟩ := (HL.out.ext HX.out).num_at hx
   obtain ⟨b2, o2, rfl, c2, hy1⟩ := (HM.out.ext HX.out).num_at hy
   have hkn : (k : Int) < (n : Int) := by omega
   have HXX := hid hx
   have HYY := hid hy
   clear hx hy
   go_wp2_with fail
   refine wp_region_held_drew (S := (fun w' => w'.cell? ⟨b1, o1 + k, none⟩ = some (.int .i64 x) ∧ w'.cell? ⟨b2, o2 + k, none⟩ = some (.int .i64 y))) (by kernel_rfl) ⟨c1, c2⟩ (fun hSg76q0 => ?_)
   refine rgT 0 ?_
   refine rgT 1 ?_
   refine rgT 2 ?_
   refine rgT 3 ?_
   refine rgT 4 ?_
   refine rgT 5 ?_
   refine rgT 6 ?_
   refine rgT 7 ?_
   refine rgT 8 ?_
   refine wpAnyH_done (by kernel_rfl) ?_ _
   clear c1 c2
   by_cases h2 : x = y
   ·have g2 : ((x : Int) != (y : Int)) = false := by simp; omega
    have HT2 : Hid (L.take (k + 1) = M.take (k + 1)) := hid (take_eq HT.out HXX.out (by rw [h2]; exact HYY.out))
    clear h2
    go_wp2
    first
     | go_roundw
     | refine ⟨?rel, ?measure⟩
    case rel => exact ⟨k + 1, by omega, by go_num, HT2, hid HX.out.drew⟩
    case measure => simp [intOf]; omega
   ·have g2 : ((x : Int) != (y : Int)) = true := by simp; omega
    obtain rfl : z = false := by
     rw [← HZ.out]
     exact decide_eq_false (take_ne HXX.out HYY.out h2)
    clear h2
    go_wp2
    go_ret
    exact ⟨rfl, HX.out.drew⟩
  ·have hkn : ¬ (k : Int) < (n : Int) := by omega
   obtain rfl : z = true := by
    rw [← HZ.out]
    have h := HT.out
    rw [List.take_of_length_le (by have := HLN.out; omega), List.take_of_length_le (by have := HMN.out; omega)] at h
    exact decide_eq_true h
   go_wp2
   go_ret
   exact ⟨rfl, HX.out⟩
theorem info_sacc : (Tryz.prog.info? 59).map (fun i => (i.zero, i.size, i.bytes)) = some (some (.agg #[.int .i64 0, .int .i64 0, .int .i64 0, .bool false]), 4, 32) := by kernel_rfl
/-- The accesses, copied into a row of their own. -/
def ProgIs (w : World) (l : List Acc) (e : Ending) (w' : World) : Prop := ∃ A c, e = .returned (.slice A l.length c) ∧ Sl accR w' All (.slice A l.length c) l ∧ Ext w w'
set_option maxRecDepth 100000 in
set_option maxHeartbeats 4000000 in
theorem lprog_any (w : World) (A : Option Addr) (n c : Nat) (l : List Acc) (hl : Sl accR w All (.slice A n c) l) (hn : n ≤ 1000) :
  Calls Tryz.prog 16 #[.slice A n c] w (ProgIs w l) := by
 have HLN := hid hl.len
 have HL := hid hl
 obtain ⟨j0, hj, hj0, hj1, hj2⟩ := info_parts info_sacc
 have HJ := hid hj
 have HJ0 := hid hj0
 have HJ1 := hid hj1
 have HJ2 := hid hj2
 clear hj hj0 hj1 hj2 hl
 unfold ProgIs
 rw [← HLN.out]
 go_enter Tryz.func16, Tryz.ntmps16
 go_wp2
 go_loopw [4, 3] (fun i s3 wr => ∃ (k : Nat) (A2 : Option Addr) (c2 : Nat), k ≤ n ∧ i = .int .i64 k ∧ s3 = .slice A2 k c2 ∧ Hid (OwnS accR wr w.heap.size 59 All (.slice A2 k c2) (l.take k)) ∧ Hid (Ext w wr)) (fun i _ _ => n - (intOf i).toNat)
 case atStart => exact ⟨0, none, 0, by omega, rfl, rfl, hid OwnS.nil, hid (Ext.refl _)⟩
 case round =>
  obtain ⟨k, A2, c2, hk, rfl, rfl, HO, HX⟩ := hrel
  by_cases h1 : k < n
  ·obtain ⟨x, hx⟩ : ∃ x, l[k]? = some x := ⟨_, List.getElem?_eq_getElem (by have := HLN.out; omega)⟩
   obtain ⟨b, off, rfl, x0, x1, x2, x3, hi0, hi1, hi2⟩ := (HL.out.ext HX.out).acc_at hx
   have hkn : (k : Int) < (n : Int) := by omega
   have HTK := hid (take_snoc' hx)
   have HKL : Hid ((l.take k).length = k) := hid (by rw [List.length_take]; have := HLN.out; omega)
   have HII := hid (And.intro hi0 (And.intro hi1 hi2))
   have HCW : Hid (∀ W, Ext w W → W.cell? ⟨b, off + k * 4, none⟩ = some (.int .i64 x.base) ∧ W.cell? ⟨b, off + k * 4 + 1, none⟩ = some (.int .i64 x.off) ∧ W.cell? ⟨b, off + k * 4 + 2, none⟩ = some (.int .i64 x.width) ∧ W.cell? ⟨b, off + k * 4 + 3, none⟩ = some (.bool x.sgn)) := hid (by
    obtain ⟨b9, off9, hbo, z0, z1, z2, z3, -⟩ := HL.out.acc_at hx
    obtain ⟨rfl, rfl⟩ : b = b9 ∧ off = off9 := by simpa using hbo
    exact fun W hW => ⟨hW.cell z0, hW.cell z1, hW.cell z2, hW.cell z3⟩)
   have hws : w.heap.size ≤ wr.heap.size := HX.out.size
   clear hx hi0 hi1 hi2
   go_wp2_with fail
   refine wp_region_held_drew (S := (fun w' => w'.cell? ⟨b, off + k * 4, none⟩ = some (.int .i64 x.base) ∧ w'.cell? ⟨b, off + k * 4 + 1, none⟩ = some (.int .i64 x.off) ∧ w'.cell? ⟨b, off + k * 4 + 2, none⟩ = some (.int .i64 x.width) ∧ w'.cell? ⟨b, off + k * 4 + 3, none⟩ = some (.bool x.sgn))) (by kernel_rfl) ⟨x0, x1, x2, x3⟩ (fun hSg77q0 => ?_)
   refine rgT 0 ?_
   refine rgT 1 ?_
   refine rgT 2 ?_
   refine rgT 3 ?_
   refine rgT 4 ?_
   refine rgT 5 ?_
   refine rgT 6 ?_
   refine rgT 7 ?_
   refine rgT 8 ?_
   refine rgT 9 ?_
   refine rgT 10 ?_
   refine rgT 11 ?_
   refine rgT 12 ?_
   refine rgT 13 ?_
   refine rgT 14 ?_
   refine rgT 15 ?_
   refine rgT 16 ?_
   refine rgT 17 ?_
   refine rgT 18 ?_
   refine rgT 19 ?_
   refine rgT 20 ?_
   refine rgT 21 ?_
   refine rgC 22 (fun K hK => ?_)
   go_simp
   have HE5 := hid (((Ext.refl wr).drew).alloc (.cells #[.int .i64 x.base, .int .i64 x.off, .int .i64 x.width, .bool x.sgn] 59))
   refine hK.out _ _ ⟨HE5.out.cell x0, HE5.out.cell x1, HE5.out.cell x2, HE5.out.cell x3⟩ (fun hSg77q1 => ?_)
   clear hK K
   try simp only [Act.put, List.setIfInBounds_toArray, List.set_cons_zero, List.set_cons_succ]
   refine rgC 23 (fun K hK => ?_)
   refine step_app1l rfl (.tmp 11) (.tmp 33) 31 rfl w.heap.size 59 j0 _ 4 32 Tryz.underlying31 HJ.out HJ0.out HJ1.out HJ2.out rfl accR rfl (.slice A2 k c2) (l.take k) rfl HO.out.dr x rfl ⟨rfl, HII.out⟩ (by rw [HKL.out]; omega) (by rw [HKL.out]; omega) (by exact hws) ?_
   intro A9 c9 w9 hown9 hg9 hloc9
   rw [HKL.out, ← HTK.out] at hown9
   have HO9 := hid hown9
   have HX9 := hid ((HX.out.drew.alloc _).grown hg9 (fun q hq => (HO.out.block q hq).1))
   rw [HKL.out]
   clear hown9 hg9 hloc9
   refine hK.out _ _ (HCW.out _ HX9.out) (fun hSg77q2 => ?_)
   clear hK K
   try simp only [Act.put, List.setIfInBounds_toArray, List.set_cons_zero, List.set_cons_succ]
   refine rgT 24 ?_
   refine wpAnyH_done (by kernel_rfl) ?_ _
   clear x0 x1 x2 x3
   go_wp2
   first
    | go_roundw
    | refine ⟨?rel, ?measure⟩
   case rel => exact ⟨k + 1, A9, c9, by omega, by go_num, rfl, HO9, HX9⟩
   case measure => simp [intOf]; omega
  ·have hkn : ¬ (k : Int) < (n : Int) := by omega
   obtain rfl : n = k := by omega
   have hs := HO.out.sl
   rw [List.take_of_length_le (by have := HLN.out; omega)] at hs
   have HS := hid hs
   clear hs
   go_wp2
   go_ret
   exact ⟨A2, c2, rfl, HS.out, HX.out⟩
end Go.Proofs.YtacmjhcfjhpkeaaGreatDoor

namespace Go.Proofs.YtacmjhcfjhpkeaaGreatDoor
open Go.RowKit Go.Deco
set_option linter.unusedSimpArgs false
set_option linter.unusedVariables false
set_option maxRecDepth 100000 in
set_option maxHeartbeats 4000000 in
theorem lparts_any : ∀ (d : Nat) (w : World) (t : Ty) (v : Value) (most left : Int), TyV d w All v t → most ≤ 100 → left ≤ 100000 → -1 ≤ left → Calls Tryz.prog 31 #[v, .int .i64 most, .int .i64 left] w (TInt w (ptT t most left)) := by
 intro d
 induction d using Nat.strongRecOn with
 | _ d ih =>
  intro w t v most left hv hmo hle hl1
  obtain ⟨A, na, ca, B, nb, cb, rfl, hE, hF, hk, hs, hc⟩ := hv
  have hla := hE.len
  have hlb := hF.len
  obtain ⟨hac, ham⟩ := hE.cap
  obtain ⟨hbc, hbm⟩ := hF.cap
  obtain ⟨W0, hW0⟩ : ∃ W0, w.alloc (.cells #[.int .i64 t.kind, .int .i64 t.size, .int .i64 t.count, .slice A na ca, .slice B nb cb] 25) = W0 := ⟨_, rfl⟩
  have hE0 : Ext w W0 := by rw [← hW0]; exact (Ext.refl w).alloc _
  have o2 : W0.cell? ⟨w.heap.size, 2, none⟩ = some (.int .i64 t.count) := by rw [← hW0]; simp [go_sem]
  have o3 : W0.cell? ⟨w.heap.size, 3, none⟩ = some (.slice A na ca) := by rw [← hW0]; simp [go_sem]
  have o4 : W0.cell? ⟨w.heap.size, 4, none⟩ = some (.slice B nb cb) := by rw [← hW0]; simp [go_sem]
  obtain ⟨R, hR⟩ : ∃ R, ptT t most left = R := ⟨_, rfl⟩
  rw [hR]
  have hrv : (if most < 1 ∨ left < 1 ∨ 2 < na ∨ 70 < nb ∨ (1200 < t.count ∧ 0 < na) then -1 else ptF t.fields (most - 1) (ptE t.elem (most - 1) (left - 1))) = R := by
   rw [← hR, hla, hlb]
   cases t
   rw [ptT]
   rfl
  have HE := hid hE
  have HF := hid hF
  have HLA := hid hla
  have HLB := hid hlb
  have HE0 := hid hE0
  have HRV := hid hrv
  have HIH := hid ih
  have HCB := hid hc
  obtain ⟨ct, hct⟩ : ∃ ct, t.count = ct := ⟨_, rfl⟩
  rw [hct] at o2 HRV
  clear hE hF hla hlb hE0 ih hk hs hc hR hrv hct
  by_cases a1 : most < 1
  ·have g1 : decide (most < 1) = true := decide_eq_true a1
   obtain rfl : R = -1 := by rw [← HRV.out, if_pos (by omega)]
   clear HRV
   go_enter Tryz.func31, Tryz.ntmps31
   go_wp2
   go_ret
   exact ⟨rfl, HE0.out⟩
  have g1 : decide (most < 1) = false := decide_eq_false a1
  by_cases a2 : left < 1
  ·have g2 : decide (left < 1) = true := decide_eq_true a2
   obtain rfl : R = -1 := by rw [← HRV.out, if_pos (by omega)]
   clear HRV
   go_enter Tryz.func31, Tryz.ntmps31
   go_wp2
   go_ret
   exact ⟨rfl, HE0.out⟩
  have g2 : decide (left < 1) = false := decide_eq_false a2
  by_cases a3 : (na : Int) > 2
  ·have g3 : decide ((na : Int) > 2) = true := decide_eq_true a3
   obtain rfl : R = -1 := by rw [← HRV.out, if_pos (by omega)]
   clear HRV
   go_enter Tryz.func31, Tryz.ntmps31
   go_wp2
   go_ret
   exact ⟨rfl, HE0.out⟩
  have g3 : decide ((na : Int) > 2) = false := decide_eq_false a3
  by_cases a4 : (nb : Int) > 70
  ·have g4 : decide ((nb : Int) > 70) = true := decide_eq_true a4
   obtain rfl : R = -1 := by rw [← HRV.out, if_pos (by omega)]
   clear HRV
   go_enter Tryz.func31, Tryz.ntmps31
   go_wp2
   go_ret
   exact ⟨rfl, HE0.out⟩
  have g4 : decide ((nb : Int) > 70) = false := decide_eq_false a4
  by_cases a5 : ct > 1200
  ·have g5 : decide (ct > 1200) = true := decide_eq_true a5
   by_cases a6 : (na : Int) > 0
   ·have g6 : decide ((na : Int) > 0) = true := decide_eq_true a6
    obtain rfl : R = -1 := by rw [← HRV.out, if_pos (by omega)]
    clear HRV
    go_enter Tryz.func31, Tryz.ntmps31
    go_wp2
    go_ret
    exact ⟨rfl, HE0.out⟩
   ·obtain rfl : na = 0 := by omega
    clear a6
    have HRR : Hid (ptF t.fields (most - 1) (ptE t.elem (most - 1) (left - 1)) = R) := hid (by rw [← HRV.out, if_neg (by omega)])
    have q1 : IntKind.i64.wrap (most - 1) = most - 1 := IntWalk.i64_in _ (by omega)
    have q2 : IntKind.i64.wrap (left - 1) = left - 1 := IntWalk.i64_in _ (by omega)
    have HO3 := hid (fun W (hW : Ext W0 W) => hW.cell o3)
    have HO4 := hid (fun W (hW : Ext W0 W) => hW.cell o4)
    go_enter Tryz.func31, Tryz.ntmps31
    go_wp2
    clear o2 o3 o4
    go_loopw [8, 7] (fun i s7 wr => ∃ (k : Nat) (nn : Int), k ≤ 0 ∧ i = .int .i64 k ∧ s7 = .int .i64 nn ∧ -1 ≤ nn ∧ nn ≤ left ∧ Hid (ptE (t.elem.take k) (most - 1) (left - 1) = nn) ∧ Hid (Ext W0 wr)) (fun i _ _ => 0 - (intOf i).toNat)
    case atStart => exact ⟨0, left - 1, by omega, rfl, rfl, by omega, by omega, hid (by rw [List.take_zero, ptE]), hid (Ext.refl _)⟩
    case round =>
     obtain ⟨k, nn, hk, rfl, rfl, hn1, hn2, HPE, HX⟩ := hrel
     have o3 := HO3.out _ HX.out
     obtain rfl : k = 0 := by omega
     have hkn : ¬ ((0 : Nat) : Int) < ((0 : Nat) : Int) := by omega
     have HEE : Hid (ptE t.elem (most - 1) (left - 1) = nn) := hid (by rw [← HPE.out, ptE_stop (by have := HLA.out; have := HPE.out; omega)])
     have HXE := hid HX.out
     obtain ⟨wE, hwE⟩ : ∃ wE, wE = wr := ⟨_, rfl⟩
     obtain rfl := hwE
     have HO4E := hid (HO4.out wE HXE.out)
     have HLO := hid hn1
     have HHI := hid hn2
     obtain ⟨nE, hnE⟩ : ∃ nE, nE = nn := ⟨_, rfl⟩
     obtain rfl := hnE
     clear HX HPE
     go_wp2
     clear o3
     go_loopw [9, 7] (fun i s7 wr => ∃ (k : Nat) (nn : Int), k ≤ nb ∧ i = .int .i64 k ∧ s7 = .int .i64 nn ∧ -1 ≤ nn ∧ nn ≤ left ∧ Hid (ptF (t.fields.take k) (most - 1) nE = nn) ∧ Hid (Ext wE wr)) (fun i _ _ => nb - (intOf i).toNat)
     case atStart => exact ⟨0, nE, by omega, rfl, rfl, HLO.out, HHI.out, hid (by rw [List.take_zero, ptF]), hid (Ext.refl _)⟩
     case round =>
      obtain ⟨k, nn, hk, rfl, rfl, hn1, hn2, HFF, HX⟩ := hrel
      have o4 := HX.out.cell HO4E.out
      by_cases h1 : k < nb
      ·have hkn : (k : Int) < (nb : Int) := by omega
       by_cases h2 : nn ≥ 0
       ·have g7 : decide (nn ≥ 0) = true := decide_eq_true h2
        obtain ⟨x, hx⟩ : ∃ x, t.fields[k]? = some x := ⟨_, List.getElem?_eq_getElem (by have := HLB.out; omega)⟩
        obtain ⟨d', b, off, A1, n1, c1, B1, m1, e1, hd, rfl, hv1, -, -, c0, c1', c2, c3, c4⟩ := (HF.out.ext (HE0.out.trans (HXE.out.trans HX.out))).fd_at hx
        have HST := hid ((ptF_snoc (most - 1) nE hx (by rw [HFF.out]; exact h2)).trans (by rw [HFF.out]))
        have hpb := ptT_nod x.2 (most - 1) nn hn1
        have HC := hid (HIH.out d' (by omega) wr x.2 _ (most - 1) nn hv1 (by omega) (by omega) hn1)
        obtain ⟨r, hr⟩ : ∃ r, ptT x.2 (most - 1) nn = r := ⟨_, rfl⟩
        rw [hr] at HST hpb HC
        have hr1 : -1 ≤ r ∧ r ≤ left := by omega
        clear hx hd hv1 hpb hr
        go_wp2_with fail
        refine (HC.out).mono ?_
        rintro e w5 ⟨rfl, hx5⟩
        have HX5 := hid (HX.out.trans hx5)
        clear hx5 o4 c0 c1' c2 c3 c4
        go_wp2
        first
         | go_roundw
         | refine ⟨?rel, ?measure⟩
        case rel => exact ⟨k + 1, r, by omega, by go_num, rfl, hr1.1, hr1.2, HST, HX5⟩
        case measure => simp [intOf]; omega
       ·have g7 : decide (nn ≥ 0) = false := decide_eq_false h2
        have HFIN : Hid (R = nn) := hid (by rw [← HRR.out, HEE.out, ← HFF.out, ptF_stop (by have := HLB.out; have := HFF.out; omega)])
        go_wp2
        go_ret
        exact ⟨by rw [HFIN.out]; rfl, HE0.out.trans (HXE.out.trans HX.out)⟩
      ·have hkn : ¬ (k : Int) < (nb : Int) := by omega
       have HFIN : Hid (R = nn) := hid (by rw [← HRR.out, HEE.out, ← HFF.out, ptF_stop (by have := HLB.out; have := HFF.out; omega)])
       go_wp2
       go_ret
       exact ⟨by rw [HFIN.out]; rfl, HE0.out.trans (HXE.out.trans HX.out)⟩
  ·have g5 : decide (ct > 1200) = false := decide_eq_false a5
   have HRR : Hid (ptF t.fields (most - 1) (ptE t.elem (most - 1) (left - 1)) = R) := hid (by rw [← HRV.out, if_neg (by omega)])
   have q1 : IntKind.i64.wrap (most - 1) = most - 1 := IntWalk.i64_in _ (by omega)
   have q2 : IntKind.i64.wrap (left - 1) = left - 1 := IntWalk.i64_in _ (by omega)
   have HO3 := hid (fun W (hW : Ext W0 W) => hW.cell o3)
   have HO4 := hid (fun W (hW : Ext W0 W) => hW.cell o4)
   go_enter Tryz.func31, Tryz.ntmps31
   go_wp2
   clear o2 o3 o4
   go_loopw [8, 7] (fun i s7 wr => ∃ (k : Nat) (nn : Int), k ≤ na ∧ i = .int .i64 k ∧ s7 = .int .i64 nn ∧ -1 ≤ nn ∧ nn ≤ left ∧ Hid (ptE (t.elem.take k) (most - 1) (left - 1) = nn) ∧ Hid (Ext W0 wr)) (fun i _ _ => na - (intOf i).toNat)
   case atStart => exact ⟨0, left - 1, by omega, rfl, rfl, by omega, by omega, hid (by rw [List.take_zero, ptE]), hid (Ext.refl _)⟩
   case round =>
    obtain ⟨k, nn, hk, rfl, rfl, hn1, hn2, HPE, HX⟩ := hrel
    have o3 := HO3.out _ HX.out
    by_cases h1 : k < na
    ·have hkn : (k : Int) < (na : Int) := by omega
     by_cases h2 : nn ≥ 0
     ·have g7 : decide (nn ≥ 0) = true := decide_eq_true h2
      obtain ⟨x, hx⟩ : ∃ x, t.elem[k]? = some x := ⟨_, List.getElem?_eq_getElem (by have := HLA.out; omega)⟩
      obtain ⟨d', b, off, A1, n1, c1, B1, m1, e1, hd, rfl, hv1, c0, c1', c2, c3, c4⟩ := (HE.out.ext (HE0.out.trans HX.out)).ty_at hx
      have HST := hid ((ptE_snoc (most - 1) (left - 1) hx (by rw [HPE.out]; exact h2)).trans (by rw [HPE.out]))
      have hpb := ptT_nod x (most - 1) nn hn1
      have HC := hid (HIH.out d' (by omega) wr x _ (most - 1) nn hv1 (by omega) (by omega) hn1)
      obtain ⟨r, hr⟩ : ∃ r, ptT x (most - 1) nn = r := ⟨_, rfl⟩
      rw [hr] at HST hpb HC
      have hr1 : -1 ≤ r ∧ r ≤ left := by omega
      clear hx hd hv1 hpb hr
      go_wp2_with fail
      refine (HC.out).mono ?_
      rintro e w5 ⟨rfl, hx5⟩
      have HX5 := hid (HX.out.trans hx5)
      clear hx5 o3 c0 c1' c2 c3 c4
      go_wp2
      first
       | go_roundw
       | refine ⟨?rel, ?measure⟩
      case rel => exact ⟨k + 1, r, by omega, by go_num, rfl, hr1.1, hr1.2, HST, HX5⟩
      case measure => simp [intOf]; omega
     ·have g7 : decide (nn ≥ 0) = false := decide_eq_false h2
      have HEE : Hid (ptE t.elem (most - 1) (left - 1) = nn) := hid (by rw [← HPE.out, ptE_stop (by have := HLA.out; have := HPE.out; omega)])
      have HXE := hid HX.out
      obtain ⟨wE, hwE⟩ : ∃ wE, wE = wr := ⟨_, rfl⟩
      obtain rfl := hwE
      have HO4E := hid (HO4.out wE HXE.out)
      have HLO := hid hn1
      have HHI := hid hn2
      obtain ⟨nE, hnE⟩ : ∃ nE, nE = nn := ⟨_, rfl⟩
      obtain rfl := hnE
      clear HX HPE
      go_wp2
      clear o3
      go_loopw [9, 7] (fun i s7 wr => ∃ (k : Nat) (nn : Int), k ≤ nb ∧ i = .int .i64 k ∧ s7 = .int .i64 nn ∧ -1 ≤ nn ∧ nn ≤ left ∧ Hid (ptF (t.fields.take k) (most - 1) nE = nn) ∧ Hid (Ext wE wr)) (fun i _ _ => nb - (intOf i).toNat)
      case atStart => exact ⟨0, nE, by omega, rfl, rfl, HLO.out, HHI.out, hid (by rw [List.take_zero, ptF]), hid (Ext.refl _)⟩
      case round =>
       obtain ⟨k, nn, hk, rfl, rfl, hn1, hn2, HFF, HX⟩ := hrel
       have o4 := HX.out.cell HO4E.out
       by_cases h1 : k < nb
       ·have hkn : (k : Int) < (nb : Int) := by omega
        by_cases h2 : nn ≥ 0
        ·have g7 : decide (nn ≥ 0) = true := decide_eq_true h2
         obtain ⟨x, hx⟩ : ∃ x, t.fields[k]? = some x := ⟨_, List.getElem?_eq_getElem (by have := HLB.out; omega)⟩
         obtain ⟨d', b, off, A1, n1, c1, B1, m1, e1, hd, rfl, hv1, -, -, c0, c1', c2, c3, c4⟩ := (HF.out.ext (HE0.out.trans (HXE.out.trans HX.out))).fd_at hx
         have HST := hid ((ptF_snoc (most - 1) nE hx (by rw [HFF.out]; exact h2)).trans (by rw [HFF.out]))
         have hpb := ptT_nod x.2 (most - 1) nn hn1
         have HC := hid (HIH.out d' (by omega) wr x.2 _ (most - 1) nn hv1 (by omega) (by omega) hn1)
         obtain ⟨r, hr⟩ : ∃ r, ptT x.2 (most - 1) nn = r := ⟨_, rfl⟩
         rw [hr] at HST hpb HC
         have hr1 : -1 ≤ r ∧ r ≤ left := by omega
         clear hx hd hv1 hpb hr
         go_wp2_with fail
         refine (HC.out).mono ?_
         rintro e w5 ⟨rfl, hx5⟩
         have HX5 := hid (HX.out.trans hx5)
         clear hx5 o4 c0 c1' c2 c3 c4
         go_wp2
         first
          | go_roundw
          | refine ⟨?rel, ?measure⟩
         case rel => exact ⟨k + 1, r, by omega, by go_num, rfl, hr1.1, hr1.2, HST, HX5⟩
         case measure => simp [intOf]; omega
        ·have g7 : decide (nn ≥ 0) = false := decide_eq_false h2
         have HFIN : Hid (R = nn) := hid (by rw [← HRR.out, HEE.out, ← HFF.out, ptF_stop (by have := HLB.out; have := HFF.out; omega)])
         go_wp2
         go_ret
         exact ⟨by rw [HFIN.out]; rfl, HE0.out.trans (HXE.out.trans HX.out)⟩
       ·have hkn : ¬ (k : Int) < (nb : Int) := by omega
        have HFIN : Hid (R = nn) := hid (by rw [← HRR.out, HEE.out, ← HFF.out, ptF_stop (by have := HLB.out; have := HFF.out; omega)])
        go_wp2
        go_ret
        exact ⟨by rw [HFIN.out]; rfl, HE0.out.trans (HXE.out.trans HX.out)⟩
    ·have hkn : ¬ (k : Int) < (na : Int) := by omega
     have HEE : Hid (ptE t.elem (most - 1) (left - 1) = nn) := hid (by rw [← HPE.out, ptE_stop (by have := HLA.out; have := HPE.out; omega)])
     have HXE := hid HX.out
     obtain ⟨wE, hwE⟩ : ∃ wE, wE = wr := ⟨_, rfl⟩
     obtain rfl := hwE
     have HO4E := hid (HO4.out wE HXE.out)
     have HLO := hid hn1
     have HHI := hid hn2
     obtain ⟨nE, hnE⟩ : ∃ nE, nE = nn := ⟨_, rfl⟩
     obtain rfl := hnE
     clear HX HPE
     go_wp2
     clear o3
     go_loopw [9, 7] (fun i s7 wr => ∃ (k : Nat) (nn : Int), k ≤ nb ∧ i = .int .i64 k ∧ s7 = .int .i64 nn ∧ -1 ≤ nn ∧ nn ≤ left ∧ Hid (ptF (t.fields.take k) (most - 1) nE = nn) ∧ Hid (Ext wE wr)) (fun i _ _ => nb - (intOf i).toNat)
     case atStart => exact ⟨0, nE, by omega, rfl, rfl, HLO.out, HHI.out, hid (by rw [List.take_zero, ptF]), hid (Ext.refl _)⟩
     case round =>
      obtain ⟨k, nn, hk, rfl, rfl, hn1, hn2, HFF, HX⟩ := hrel
      have o4 := HX.out.cell HO4E.out
      by_cases h1 : k < nb
      ·have hkn : (k : Int) < (nb : Int) := by omega
       by_cases h2 : nn ≥ 0
       ·have g7 : decide (nn ≥ 0) = true := decide_eq_true h2
        obtain ⟨x, hx⟩ : ∃ x, t.fields[k]? = some x := ⟨_, List.getElem?_eq_getElem (by have := HLB.out; omega)⟩
        obtain ⟨d', b, off, A1, n1, c1, B1, m1, e1, hd, rfl, hv1, -, -, c0, c1', c2, c3, c4⟩ := (HF.out.ext (HE0.out.trans (HXE.out.trans HX.out))).fd_at hx
        have HST := hid ((ptF_snoc (most - 1) nE hx (by rw [HFF.out]; exact h2)).trans (by rw [HFF.out]))
        have hpb := ptT_nod x.2 (most - 1) nn hn1
        have HC := hid (HIH.out d' (by omega) wr x.2 _ (most - 1) nn hv1 (by omega) (by omega) hn1)
        obtain ⟨r, hr⟩ : ∃ r, ptT x.2 (most - 1) nn = r := ⟨_, rfl⟩
        rw [hr] at HST hpb HC
        have hr1 : -1 ≤ r ∧ r ≤ left := by omega
        clear hx hd hv1 hpb hr
        go_wp2_with fail
        refine (HC.out).mono ?_
        rintro e w5 ⟨rfl, hx5⟩
        have HX5 := hid (HX.out.trans hx5)
        clear hx5 o4 c0 c1' c2 c3 c4
        go_wp2
        first
         | go_roundw
         | refine ⟨?rel, ?measure⟩
        case rel => exact ⟨k + 1, r, by omega, by go_num, rfl, hr1.1, hr1.2, HST, HX5⟩
        case measure => simp [intOf]; omega
       ·have g7 : decide (nn ≥ 0) = false := decide_eq_false h2
        have HFIN : Hid (R = nn) := hid (by rw [← HRR.out, HEE.out, ← HFF.out, ptF_stop (by have := HLB.out; have := HFF.out; omega)])
        go_wp2
        go_ret
        exact ⟨by rw [HFIN.out]; rfl, HE0.out.trans (HXE.out.trans HX.out)⟩
      ·have hkn : ¬ (k : Int) < (nb : Int) := by omega
       have HFIN : Hid (R = nn) := hid (by rw [← HRR.out, HEE.out, ← HFF.out, ptF_stop (by have := HLB.out; have := HFF.out; omega)])
       go_wp2
       go_ret
       exact ⟨by rw [HFIN.out]; rfl, HE0.out.trans (HXE.out.trans HX.out)⟩
set_option maxRecDepth 100000 in
set_option maxHeartbeats 4000000 in
theorem lsmall_any (d : Nat) (w : World) (t : Ty) (v : Value) (hv : TyV d w All v t) : Calls Tryz.prog 12 #[v, .int .i64 6] w (TBool w (decide (0 ≤ ptT t 6 3000))) := by
 have HV := hid hv
 obtain ⟨A, na, ca, B, nb, cb, rfl, -⟩ := hv
 obtain ⟨W0, hW0⟩ : ∃ W0, w.alloc (.cells #[.int .i64 t.kind, .int .i64 t.size, .int .i64 t.count, .slice A na ca, .slice B nb cb] 25) = W0 := ⟨_, rfl⟩
 have hE0 : Ext w W0 := by rw [← hW0]; exact (Ext.refl w).alloc _
 have o0 : W0.cell? ⟨w.heap.size, 0, none⟩ = some (.int .i64 t.kind) := by rw [← hW0]; simp [go_sem]
 have o1 : W0.cell? ⟨w.heap.size, 1, none⟩ = some (.int .i64 t.size) := by rw [← hW0]; simp [go_sem]
 have o2 : W0.cell? ⟨w.heap.size, 2, none⟩ = some (.int .i64 t.count) := by rw [← hW0]; simp [go_sem]
 have o3 : W0.cell? ⟨w.heap.size, 3, none⟩ = some (.slice A na ca) := by rw [← hW0]; simp [go_sem]
 have o4 : W0.cell? ⟨w.heap.size, 4, none⟩ = some (.slice B nb cb) := by rw [← hW0]; simp [go_sem]
 have HE0 := hid hE0
 have HC := hid (lparts_any d W0 t _ 6 3000 (HV.out.ext hE0) (by omega) (by omega) (by omega))
 clear hE0
 obtain ⟨r, hr⟩ : ∃ r, ptT t 6 3000 = r := ⟨_, rfl⟩
 rw [hr] at HC ⊢
 obtain ⟨z, hz⟩ : ∃ z, decide (0 ≤ r) = z := ⟨_, rfl⟩
 rw [hz]
 have HZ := hid hz
 clear hr hz
 go_enter Tryz.func12, Tryz.ntmps12
 go_wp2_with fail
 refine (HC.out).mono ?_
 rintro e w5 ⟨rfl, hx5⟩
 have HX5 := hid (HE0.out.trans hx5)
 clear hx5 o0 o1 o2 o3 o4
 go_wp2
 go_ret
 exact ⟨by rw [← HZ.out]; rfl, HX5.out⟩
end Go.Proofs.YtacmjhcfjhpkeaaGreatDoor

namespace Go.Deco
open Go Go.RowKit
def exA : List Acc := [⟨0, 8, 1, true⟩, ⟨0, 0, 4, false⟩]
def exB : List Acc := [⟨0, 0, 2, false⟩, ⟨0, 2, 2, false⟩, ⟨0, 4, 2, false⟩]
def exC : List Acc := [⟨0, 0, 4, false⟩, ⟨0, 8, 4, false⟩, ⟨0, 2, 2, false⟩]
def exD : List Acc := [⟨0, 0, 4, false⟩, ⟨0, 16, 4, false⟩, ⟨0, 8, 1, false⟩]
def exE : Ty := Ty.str [(0, Ty.int 4)]
def exF : Ty := Ty.str [(4, Ty.int 4)]
def tyA : Ty := Ty.str [(0, Ty.uint 4), (8, Ty.int 1)]
def tyB : Ty := Ty.arr (Ty.uint 2) 3
def tyC : Ty := Ty.str [(0, Ty.arr (Ty.uint 1) 4), (8, Ty.uint 4)]
def tyD : Ty := Ty.arr (Ty.int 4) 2
theorem ex_a : layoutA exA = (tyA, 0) := by kernel_rfl
theorem ex_b : layoutA exB = (tyB, 0) := by kernel_rfl
theorem ex_c : layoutA exC = (tyC, 0) := by kernel_rfl
theorem ex_e : mergeT exE exF = (tyD, 0) := by kernel_rfl
theorem ex_f : conflA exC = [0, 2] := by kernel_rfl
theorem ex_pa : printT tyA = [123, 48, 58, 32, 117, 105, 110, 116, 51, 50, 44, 32, 56, 58, 32, 105, 110, 116, 56, 125] := by kernel_rfl
theorem ex_pb : printT tyB = [91, 51, 93, 117, 105, 110, 116, 49, 54] := by kernel_rfl
theorem ex_pc : printT tyC = [123, 48, 58, 32, 91, 52, 93, 117, 105, 110, 116, 56, 44, 32, 56, 58, 32, 117, 105, 110, 116, 51, 50, 125] := by kernel_rfl
theorem ex_pd : printT tyD = [91, 50, 93, 105, 110, 116, 51, 50] := by kernel_rfl
theorem ex_n : (nameT tyA).length = 10 := by kernel_rfl
theorem ex_nod : nodT tyA ≤ 1000000 ∧ nodT tyB ≤ 1000000 ∧ nodT tyC ≤ 1000000 ∧ nodT tyD ≤ 1000000 := by decide
end Go.Deco
