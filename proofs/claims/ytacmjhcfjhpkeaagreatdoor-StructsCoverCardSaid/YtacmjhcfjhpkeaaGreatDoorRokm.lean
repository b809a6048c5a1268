/- decompilerref34.Strides. decompilerref34.Layout: turned from StrF by wip/turnrk.py. -/
import Derived.Test.YtacmjhcfjhpkeaaGreatDoorRfGm
import Derived.Test.YtacmjhcfjhpkeaaGreatDoorSglm
import Derived.Test.YtacmjhcfjhpkeaaGreatDoorRfJm
namespace Go.Proofs.YtacmjhcfjhpkeaaGreatDoor
open Go.RowKit Go.Deco
set_option linter.unusedSimpArgs false
set_option linter.unusedVariables false

/-- The offsets of the valid accesses as fields without type. -/
def offF (l : List Acc) : List (Int × Ty) := (l.filter validA).map fun a => (a.off, Ty.unk)
def numF (S : List (Int × Ty)) : List Nat := S.map fun f => f.1.toNat
end Go.Proofs.YtacmjhcfjhpkeaaGreatDoor

namespace Go.Proofs.YtacmjhcfjhpkeaaGreatDoor
open Go.RowKit Go.Deco
set_option linter.unusedSimpArgs false
set_option linter.unusedVariables false

set_option maxRecDepth 100000 in
set_option maxHeartbeats 8000000 in
theorem rlayout_any (w : World) (A : Option Addr) (n c : Nat) (l : List Acc) (hl : Sl accR w All (.slice A n c) l) :
  Calls Tryz.prog 20 #[.slice A n c] w (TyErr 4 (fun _ => False) w (layoutA l)) := by
 have hln := hl.len
 obtain ⟨hnc, hcm⟩ := hl.cap
 obtain ⟨R, hR⟩ : ∃ R, layoutA l = R := ⟨_, rfl⟩
 have hRR := hR
 unfold layoutA at hRR
 obtain ⟨hb, hhb⟩ : ∃ hb, ((l.head?.map Acc.base).getD 0) = hb := ⟨_, rfl⟩
 rw [hhb] at hRR
 obtain ⟨P, hP⟩ : ∃ P : Acc → Bool, (fun a => validA a && decide (a.base = hb)) = P := ⟨_, rfl⟩
 rw [hP] at hRR
 rw [hR]
 have HRR := hid hRR
 have HHB := hid hhb
 have HP := hid (fun a => congrFun hP.symm a)
 have HLN := hid hln
 obtain ⟨W0, hW0⟩ : ∃ W0, w.alloc (.cells #[.int .i64 0, .int .i64 0, .int .i64 0, .slice none 0 0, .slice none 0 0] 25) = W0 := ⟨_, rfl⟩
 have hE0 : Ext w W0 := by rw [← hW0]; exact (Ext.refl w).alloc _
 have HB0 : Hid (Box5 W0 w.heap.size (.int .i64 0) (.int .i64 0) (.int .i64 0) (.slice none 0 0) (.slice none 0 0)) := hid (by rw [← hW0]; exact Box5.new w _ _ _ _ _ _)
 have HE0 := hid hE0
 have HL := hid (hl.ext hE0)
 obtain ⟨i0, hi0, hz0, hz1, hz2⟩ := info_parts info_fd
 have HI := hid hi0
 have HI0 := hid hz0
 have HI1 := hid hz1
 have HI2 := hid hz2
 clear hi0 hz0 hz1 hz2 hln hl hR hRR hhb hP hE0
 unfold TyErr
 by_cases h64 : 1024 < n
 ·have d1 : decide ((n : Int) > 1024) = true := decide_eq_true (by omega)
  have HRV : Hid (R = (Ty.unk, 6)) := hid (by rw [← HRR.out, if_pos (by have := HLN.out; omega)])
  have r0 := HB0.out.1
  have r1 := HB0.out.2.1
  have r2 := HB0.out.2.2.1
  have r3 := HB0.out.2.2.2.1
  have r4 := HB0.out.2.2.2.2.1
  have f0 := HB0.out.2.2.2.2.2 0
  have f1 := HB0.out.2.2.2.2.2 1
  have f2 := HB0.out.2.2.2.2.2 2
  have f3 := HB0.out.2.2.2.2.2 3
  have f4 := HB0.out.2.2.2.2.2 4
  have hc := set5_cells r0 r1 r2 r3 r4 (.int .i64 0) (.int .i64 0) (.int .i64 0) (.slice none 0 0) (.slice none 0 0)
  have hx := set5_ext HE0.out (Nat.le_refl _) (.int .i64 0) (.int .i64 0) (.int .i64 0) (.slice none 0 0) (.slice none 0 0)
  obtain ⟨W6, hW6⟩ : ∃ W6, ((((W0.setCell ⟨w.heap.size, 0, none⟩ (.int .i64 0)).setCell ⟨w.heap.size, 1, none⟩ (.int .i64 0)).setCell ⟨w.heap.size, 2, none⟩ (.int .i64 0)).setCell ⟨w.heap.size, 3, none⟩ (.slice none 0 0)).setCell ⟨w.heap.size, 4, none⟩ (.slice none 0 0) = W6 := ⟨_, rfl⟩
  rw [hW6] at hc hx
  obtain ⟨t0, t1, t2, t3, t4⟩ := hc
  have HX6 := hid hx
  have HW6 := hid hW6
  clear hx hW6
  go_enter Tryz.func20, Tryz.ntmps20
  go_wp2
  rw [HW6.out]
  clear r0 r1 r2 r3 r4
  refine bodyPost_ret (v := .tuple #[.agg #[.int .i64 0, .int .i64 0, .int .i64 0, .slice none 0 0, .slice none 0 0], .int .i64 6]) (by simp [results, Tryz.results20, go_sem, t0, t1, t2, t3, t4]) rfl ?_
  refine ⟨_, by rw [HRV.out]; rfl, ?_, HX6.out⟩
  rw [HRV.out]
  exact tyV_leaf _ _ _ 0 0 (by unfold i64b; omega) (by unfold i64b; omega)
 ·have d1 : decide ((n : Int) > 1024) = false := decide_eq_false (by omega)
  have hn : n ≤ 1024 := by omega
  clear h64
  go_enter Tryz.func20, Tryz.ntmps20
  go_wp2
  go_loopw [5, 4] (fun i s4 wr => ∃ (k : Nat) (A2 : Option Addr) (c2 : Nat), k ≤ n ∧ i = .int .i64 k ∧ s4 = .slice A2 k c2 ∧ Hid ((l.take k).all P = true) ∧ Hid (OwnS (fdR (tyR 1)) wr W0.heap.size 48 (fun b => w.heap.size < b) (.slice A2 k c2) ((l.take k).map partA)) ∧ Hid (Ext W0 wr)) (fun i _ _ => n - (intOf i).toNat)
  case atStart => exact ⟨0, none, 0, by omega, rfl, rfl, hid (by simp), hid (by simpa using OwnS.nil), hid (Ext.refl _)⟩
  case round =>
   obtain ⟨k, A2, c2, hk, rfl, rfl, HAL, HO, HX⟩ := hrel
   by_cases h1 : k < n
   ·obtain ⟨x, hx⟩ : ∃ x, l[k]? = some x := ⟨_, List.getElem?_eq_getElem (by have := HLN.out; omega)⟩
    obtain ⟨y, hy⟩ : ∃ y, l[0]? = some y := ⟨_, List.getElem?_eq_getElem (by have := HLN.out; omega)⟩
    have hyh : hb = y.base := by
     rw [← HHB.out]
     cases l with
     | nil => cases hy
     | cons a l =>
      have e : a = y := by simpa using hy
      rw [← e]; rfl
    obtain ⟨b, off, rfl, x0, x1, x2, x3, hi0, hi1, hi2⟩ := (HL.out.ext HX.out).acc_at hx
    obtain ⟨b', off', hbo, y0, -, -, -, -, -, -⟩ := (HL.out.ext HX.out).acc_at hy
    obtain ⟨rfl, rfl⟩ : b = b' ∧ off = off' := by simpa using hbo
    rw [Nat.zero_mul, Nat.add_zero] at y0
    rw [← hyh] at y0
    have hPx := HP.out x
    obtain ⟨z, hz⟩ : ∃ z, validA x = z := ⟨_, rfl⟩
    rw [hz] at hPx
    have HVC := hid (fun (w' : World) => isvalid_any w' x)
    rw [hz] at HVC
    have HPC := hid (fun (w' : World) => rpart_any w' x)
    have HFR := hid (fun (w' : World) (S : Nat → Prop) => fd_rel.2 (part_fdV 0 w' S x hi1 hi2))
    unfold partV at HFR HPC
    have HXX := hid hx
    have HPX := hid hPx
    have hmem := List.mem_of_getElem? hx
    have HMEM := hid hmem
    obtain ⟨kd, hkd⟩ : ∃ kd, kindA x = kd := ⟨_, rfl⟩
    rw [hkd] at HFR HPC
    unfold accV at HVC HPC
    obtain ⟨xb, xo, xw, xs⟩ := x
    simp only at x0 x1 x2 x3 HPX HVC HPC HFR
    have hkn : (k : Int) < (n : Int) := by omega
    have hn0 : 0 < n := by omega
    have hn1 : (0 : Int) < (n : Int) := by omega
    clear hbo hx hy hi0 hi1 hi2 hyh hPx hz hmem hkd
    go_wp2_with fail
    cases z with
    | false =>
     refine wp_region_held_drew (S := (fun w' => w'.cell? ⟨b, off + k * 4, none⟩ = some (.int .i64 xb) ∧ w'.cell? ⟨b, off + k * 4 + 1, none⟩ = some (.int .i64 xo) ∧ w'.cell? ⟨b, off + k * 4 + 2, none⟩ = some (.int .i64 xw) ∧ w'.cell? ⟨b, off + k * 4 + 3, none⟩ = some (.bool xs))) (by kernel_rfl) ⟨x0, x1, x2, x3⟩ (fun hSg93q0 => ?_)
     refine rgT4 0 1 2 3 ?_
     refine rgC 4 (fun K hK => ?_)
     go_simp
     go_at_call 26
     refine (HVC.out _).mono ?_
     rintro e w5 ⟨rfl, hx5⟩
     have HX5 := hid hx5.drew_left
     clear hx5
     refine rgK hK ⟨HX5.out.cell x0, HX5.out.cell x1, HX5.out.cell x2, HX5.out.cell x3⟩ (fun hSg93q1 => ?_)
     clear hK K
     refine rgT2 5 6 ?_
     refine rgU4 7 8 9 10 ?_
     refine rgU4 11 12 13 14 ?_
     refine rgU2 15 16 ?_
     refine rgT 17 ?_
     refine wpAnyH_done (by kernel_rfl) ?_ _
     have x0 := HX5.out.cell x0
     have HXA := hid (HE0.out.trans (HX.out.trans HX5.out))
     have HB := hid (HB0.out.ext (HX.out.trans HX5.out))
     have HRV : Hid (R = (Ty.unk, 2)) := hid (by rw [← HRR.out, if_neg (by have := HLN.out; omega), if_neg (by intro h; have h := List.all_eq_true.1 h _ HMEM.out; rw [HPX.out] at h; simp at h; try exact hbb h)])
     clear x0 x1 x2 x3 y0
     have r0 := HB.out.1
     have r1 := HB.out.2.1
     have r2 := HB.out.2.2.1
     have r3 := HB.out.2.2.2.1
     have r4 := HB.out.2.2.2.2.1
     have f0 := HB.out.2.2.2.2.2 0
     have f1 := HB.out.2.2.2.2.2 1
     have f2 := HB.out.2.2.2.2.2 2
     have f3 := HB.out.2.2.2.2.2 3
     have f4 := HB.out.2.2.2.2.2 4
     have hc := set5_cells r0 r1 r2 r3 r4 (.int .i64 0) (.int .i64 0) (.int .i64 0) (.slice none 0 0) (.slice none 0 0)
     have hx := set5_ext HXA.out (Nat.le_refl _) (.int .i64 0) (.int .i64 0) (.int .i64 0) (.slice none 0 0) (.slice none 0 0)
     obtain ⟨W6, hW6⟩ : ∃ W6, ((((w5.setCell ⟨w.heap.size, 0, none⟩ (.int .i64 0)).setCell ⟨w.heap.size, 1, none⟩ (.int .i64 0)).setCell ⟨w.heap.size, 2, none⟩ (.int .i64 0)).setCell ⟨w.heap.size, 3, none⟩ (.slice none 0 0)).setCell ⟨w.heap.size, 4, none⟩ (.slice none 0 0) = W6 := ⟨_, rfl⟩
     rw [hW6] at hc hx
     obtain ⟨t0, t1, t2, t3, t4⟩ := hc
     have HX6 := hid hx
     have HW6 := hid hW6
     clear hx hW6
     go_wp2
     rw [HW6.out]
     clear r0 r1 r2 r3 r4
     refine bodyPost_ret (v := .tuple #[.agg #[.int .i64 0, .int .i64 0, .int .i64 0, .slice none 0 0, .slice none 0 0], .int .i64 2]) (by simp [results, Tryz.results20, go_sem, t0, t1, t2, t3, t4]) rfl ?_
     refine ⟨_, by rw [HRV.out]; rfl, ?_, HX6.out⟩
     rw [HRV.out]
     exact tyV_leaf _ _ _ 0 0 (by unfold i64b; omega) (by unfold i64b; omega)
    | true =>
     by_cases hbb : xb = hb
     ·subst hbb
      have g1 : (xb != xb) = false := by simp
      refine wp_region_held_drew (S := (fun w' => w'.cell? ⟨b, off + k * 4, none⟩ = some (.int .i64 xb) ∧ w'.cell? ⟨b, off + k * 4 + 1, none⟩ = some (.int .i64 xo) ∧ w'.cell? ⟨b, off + k * 4 + 2, none⟩ = some (.int .i64 xw) ∧ w'.cell? ⟨b, off + k * 4 + 3, none⟩ = some (.bool xs) ∧ w'.cell? ⟨b, off, none⟩ = some (.int .i64 xb))) (by kernel_rfl) ⟨x0, x1, x2, x3, y0⟩ (fun hSg94q0 => ?_)
      refine rgT4 0 1 2 3 ?_
      refine rgC 4 (fun K hK => ?_)
      go_simp
      go_at_call 26
      refine (HVC.out _).mono ?_
      rintro e w5 ⟨rfl, hx5⟩
      have HX5 := hid hx5.drew_left
      clear hx5
      refine rgK hK ⟨HX5.out.cell x0, HX5.out.cell x1, HX5.out.cell x2, HX5.out.cell x3, HX5.out.cell y0⟩ (fun hSg94q1 => ?_)
      clear hK K
      refine rgT6 5 6 7 8 9 10 ?_
      refine rgT6 11 12 13 14 15 16 ?_
      refine rgT 17 ?_
      refine wpAnyH_done (by kernel_rfl) ?_ _
      have x0 := HX5.out.cell x0
      have x1 := HX5.out.cell x1
      have x2 := HX5.out.cell x2
      have x3 := HX5.out.cell x3
      have HXB := hid (HX.out.trans HX5.out)
      clear y0
      go_wp2_with fail
      refine (HPC.out _).mono ?_
      rintro e w7 ⟨rfl, hx7⟩
      have HX7 := hid (HXB.out.trans hx7)
      have HO7 := hid (HO.out.ext (HX5.out.trans hx7))
      have HKL := hid (show ((l.take k).map partA).length = k by rw [List.length_map, List.length_take]; have := HLN.out; omega)
      clear x0 x1 x2 x3 hx7
      go_wp2_with (first
       | (at_builtin; refine wpList_app1l rfl (.tmp 35) (.tmp 41) 23 rfl W0.heap.size 48 i0 _ 6 80 Tryz.underlying23 HI.out HI0.out HI1.out HI2.out rfl (fdR (tyR 1)) (fdR_size _) (.slice A2 k c2) ((l.take k).map partA) rfl HO7.out w7.heap.size rfl _ rfl (HFR.out _ _) (by have := HKL.out; omega) (by have := HKL.out; omega) (by exact HX7.out.size) ?_; intro A6 c6 w6 hown6 hg6 hloc6; rw [HKL.out] at hown6; have HO6 := hid hown6; have HX6 := hid ((HX7.out.alloc _).grown hg6 (fun q hq => (HO7.out.block q hq).1)); clear hown6 hg6 hloc6; rw [HKL.out])
       | fail)
      first
       | go_roundw
       | refine ⟨?rel, ?measure⟩
      case rel => exact ⟨k + 1, A6, c6, by omega, by go_num, rfl, hid (by rw [all_snocT HXX.out, HAL.out, HPX.out]; simp), hid (by rw [take_snoc' HXX.out, List.map_append]; exact HO6.out), HX6⟩
      case measure => simp [intOf]; omega
     ·have g1 : (xb != hb) = true := by simp [hbb]
      refine wp_region_held_drew (S := (fun w' => w'.cell? ⟨b, off + k * 4, none⟩ = some (.int .i64 xb) ∧ w'.cell? ⟨b, off + k * 4 + 1, none⟩ = some (.int .i64 xo) ∧ w'.cell? ⟨b, off + k * 4 + 2, none⟩ = some (.int .i64 xw) ∧ w'.cell? ⟨b, off + k * 4 + 3, none⟩ = some (.bool xs) ∧ w'.cell? ⟨b, off, none⟩ = some (.int .i64 hb))) (by kernel_rfl) ⟨x0, x1, x2, x3, y0⟩ (fun hSg95q0 => ?_)
      refine rgT4 0 1 2 3 ?_
      refine rgC 4 (fun K hK => ?_)
      go_simp
      go_at_call 26
      refine (HVC.out _).mono ?_
      rintro e w5 ⟨rfl, hx5⟩
      have HX5 := hid hx5.drew_left
      clear hx5
      refine rgK hK ⟨HX5.out.cell x0, HX5.out.cell x1, HX5.out.cell x2, HX5.out.cell x3, HX5.out.cell y0⟩ (fun hSg95q1 => ?_)
      clear hK K
      refine rgT6 5 6 7 8 9 10 ?_
      refine rgT6 11 12 13 14 15 16 ?_
      refine rgT 17 ?_
      refine wpAnyH_done (by kernel_rfl) ?_ _
      have x0 := HX5.out.cell x0
      have HXA := hid (HE0.out.trans (HX.out.trans HX5.out))
      have HB := hid (HB0.out.ext (HX.out.trans HX5.out))
      have HRV : Hid (R = (Ty.unk, 2)) := hid (by rw [← HRR.out, if_neg (by have := HLN.out; omega), if_neg (by intro h; have h := List.all_eq_true.1 h _ HMEM.out; rw [HPX.out] at h; simp at h; try exact hbb h)])
      clear x0 x1 x2 x3 y0
      have r0 := HB.out.1
      have r1 := HB.out.2.1
      have r2 := HB.out.2.2.1
      have r3 := HB.out.2.2.2.1
      have r4 := HB.out.2.2.2.2.1
      have f0 := HB.out.2.2.2.2.2 0
      have f1 := HB.out.2.2.2.2.2 1
      have f2 := HB.out.2.2.2.2.2 2
      have f3 := HB.out.2.2.2.2.2 3
      have f4 := HB.out.2.2.2.2.2 4
      have hc := set5_cells r0 r1 r2 r3 r4 (.int .i64 0) (.int .i64 0) (.int .i64 0) (.slice none 0 0) (.slice none 0 0)
      have hx := set5_ext HXA.out (Nat.le_refl _) (.int .i64 0) (.int .i64 0) (.int .i64 0) (.slice none 0 0) (.slice none 0 0)
      obtain ⟨W6, hW6⟩ : ∃ W6, ((((w5.setCell ⟨w.heap.size, 0, none⟩ (.int .i64 0)).setCell ⟨w.heap.size, 1, none⟩ (.int .i64 0)).setCell ⟨w.heap.size, 2, none⟩ (.int .i64 0)).setCell ⟨w.heap.size, 3, none⟩ (.slice none 0 0)).setCell ⟨w.heap.size, 4, none⟩ (.slice none 0 0) = W6 := ⟨_, rfl⟩
      rw [hW6] at hc hx
      obtain ⟨t0, t1, t2, t3, t4⟩ := hc
      have HX6 := hid hx
      have HW6 := hid hW6
      clear hx hW6
      go_wp2
      rw [HW6.out]
      clear r0 r1 r2 r3 r4
      refine bodyPost_ret (v := .tuple #[.agg #[.int .i64 0, .int .i64 0, .int .i64 0, .slice none 0 0, .slice none 0 0], .int .i64 2]) (by simp [results, Tryz.results20, go_sem, t0, t1, t2, t3, t4]) rfl ?_
      refine ⟨_, by rw [HRV.out]; rfl, ?_, HX6.out⟩
      rw [HRV.out]
      exact tyV_leaf _ _ _ 0 0 (by unfold i64b; omega) (by unfold i64b; omega)
   ·have hkn : ¬ (k : Int) < (n : Int) := by omega
    obtain rfl : k = n := by omega
    have ho := HO.out
    have hal := HAL.out
    rw [List.take_of_length_le (by have := HLN.out; omega)] at ho hal
    have HRV : Hid (R = arrangeF (l.map partA)) := hid (by rw [← HRR.out, if_neg (by have := HLN.out; omega), if_pos hal])
    have HB := hid (HB0.out.ext HX.out)
    have hsl := ho.slT (S := fun b => w.heap.size < b) (fun b hb => hb) (fun b hb => by
     have h1 := (ho.block b hb).1
     have h2 := HB0.out.lt
     omega)
    have HC := hid (rarrange_any 1 (fun b => w.heap.size < b) wr A2 k c2 (l.map partA) hsl (by omega) (fun f hf => by
     obtain ⟨a, ha, rfl⟩ := List.mem_map.1 hf
     have h := List.all_eq_true.1 hal a ha
     rw [HP.out a, Bool.and_eq_true] at h
     have h2 := valid_iff.1 h.1
     refine ⟨⟨h2.2.1, by show a.off ≤ 131072; omega⟩, ?_⟩
     show bnT (if a.sgn then Ty.int a.width else Ty.uint a.width) = true
     have hw := h2.1
     cases a.sgn <;> rcases hw with hw | hw | hw <;> rw [hw] <;> decide))
    have HXA := hid (HE0.out.trans HX.out)
    obtain ⟨r, hr⟩ : ∃ r, arrangeF (l.map partA) = r := ⟨_, rfl⟩
    rw [hr] at HC HRV
    have HSZ := hid (show w.heap.size ≤ wr.heap.size from (HE0.out.trans HX.out).size)
    clear ho hal hsl hr
    obtain ⟨rt, re⟩ := r
    unfold TyErr at HC
    simp only at HC
    go_wp2_with fail
    refine (HC.out).mono ?_
    rintro e w5 ⟨_, rfl, ⟨A7, n7, c7, B7, m7, e7, rfl, hv7⟩, hx5⟩
    have HXA5 := hid (HXA.out.trans hx5)
    have HB5 := hid (HB.out.ext hx5)
    have hv7' : TyV 4 w5 (fun b => w.heap.size < b ∨ wr.heap.size ≤ b) (.agg #[.int .i64 rt.kind, .int .i64 rt.size, .int .i64 rt.count, .slice A7 n7 c7, .slice B7 m7 e7]) rt := ⟨A7, n7, c7, B7, m7, e7, rfl, hv7⟩
    have HV7 := hid hv7'
    clear hx5 hv7 hv7'
    have r0 := HB5.out.1
    have r1 := HB5.out.2.1
    have r2 := HB5.out.2.2.1
    have r3 := HB5.out.2.2.2.1
    have r4 := HB5.out.2.2.2.2.1
    have f0 := HB5.out.2.2.2.2.2 0
    have f1 := HB5.out.2.2.2.2.2 1
    have f2 := HB5.out.2.2.2.2.2 2
    have f3 := HB5.out.2.2.2.2.2 3
    have f4 := HB5.out.2.2.2.2.2 4
    have hc := set5_cells r0 r1 r2 r3 r4 (.int .i64 rt.kind) (.int .i64 rt.size) (.int .i64 rt.count) (.slice A7 n7 c7) (.slice B7 m7 e7)
    have hx := set5_ext HXA5.out (Nat.le_refl _) (.int .i64 rt.kind) (.int .i64 rt.size) (.int .i64 rt.count) (.slice A7 n7 c7) (.slice B7 m7 e7)
    obtain ⟨W6, hW6⟩ : ∃ W6, ((((w5.setCell ⟨w.heap.size, 0, none⟩ (.int .i64 rt.kind)).setCell ⟨w.heap.size, 1, none⟩ (.int .i64 rt.size)).setCell ⟨w.heap.size, 2, none⟩ (.int .i64 rt.count)).setCell ⟨w.heap.size, 3, none⟩ (.slice A7 n7 c7)).setCell ⟨w.heap.size, 4, none⟩ (.slice B7 m7 e7) = W6 := ⟨_, rfl⟩
    rw [hW6] at hc hx
    obtain ⟨t0, t1, t2, t3, t4⟩ := hc
    have HX6 := hid hx
    have HW6 := hid hW6
    clear hx hW6
    go_wp2
    rw [HW6.out]
    clear r0 r1 r2 r3 r4
    refine bodyPost_ret (v := .tuple #[.agg #[.int .i64 rt.kind, .int .i64 rt.size, .int .i64 rt.count, .slice A7 n7 c7, .slice B7 m7 e7], .int .i64 re]) (by simp [results, Tryz.results20, go_sem, t0, t1, t2, t3, t4]) rfl ?_
    refine ⟨_, by rw [HRV.out], ?_, HX6.out⟩
    rw [HRV.out]
    have hgt : ∀ b, (w.heap.size < b ∨ wr.heap.size ≤ b) → IsCells w5 b → w.heap.size < b := by
     intro b hb _
     have h1 := HX.out.size
     have h2 := HB0.out.lt
     rcases hb with hb | hb
     ·exact hb
     ·omega
    refine TyV.mono (fun b hb _ => .inr (Nat.le_of_lt hb)) (TyV.keep (fun b hb _ => ?_) (TyV.mono hgt HV7.out))
    have hb' : w.heap.size < b := hb
    rw [← HW6.out]
    exact set5_heap _ _ _ _ _ _ _ (by omega)
end Go.Proofs.YtacmjhcfjhpkeaaGreatDoor
