/- decompilerref34.parts. decompilerref34.Merge. -/
import Derived.Test.YtacmjhcfjhpkeaaGreatDoorRfJm
import Derived.Test.YtacmjhcfjhpkeaaGreatDoorShim
namespace Go.Proofs.YtacmjhcfjhpkeaaGreatDoor
open Go.RowKit Go.Deco
set_option linter.unusedSimpArgs false
set_option linter.unusedVariables false

mutual
theorem shal_mono : ∀ (t : Ty) (n m : Int), n ≤ m → shalT t n = true → shalT t m = true
 | .mk k s c e f, n, m, h, hs => by
  rw [shalT] at hs ⊢
  simp only [Bool.and_eq_true, decide_eq_true_eq] at hs ⊢
  exact ⟨by omega, shal_monoE e _ _ (by omega) hs.2.1, shal_monoF f _ _ (by omega) hs.2.2⟩
theorem shal_monoE : ∀ (l : List Ty) (n m : Int), n ≤ m → shalE l n = true → shalE l m = true
 | [], _, _, _, _ => by rw [shalE]
 | t :: l, n, m, h, hs => by
  rw [shalE, Bool.and_eq_true] at hs ⊢
  exact ⟨shal_mono t n m h hs.1, shal_monoE l n m h hs.2⟩
theorem shal_monoF : ∀ (l : List (Int × Ty)) (n m : Int), n ≤ m → shalF l n = true → shalF l m = true
 | [], _, _, _, _ => by rw [shalF]
 | (o, t) :: l, n, m, h, hs => by
  rw [shalF, Bool.and_eq_true] at hs ⊢
  exact ⟨shal_mono t n m h hs.1, shal_monoF l n m h hs.2⟩
end
theorem good_parts {t : Ty} (hc : chkT t = 0) : (∀ x ∈ t.elem, goodT x = true) ∧ ∀ f ∈ t.fields, goodT f.2 = true := by
 obtain ⟨h1, h2, h3⟩ := chkT_zero.1 hc
 rw [shalT_eq] at h1
 rw [wiT_eq] at h3
 simp only [Bool.and_eq_true, decide_eq_true_eq, List.all_eq_true] at h1 h3
 have hf : (∀ x ∈ t.elem, formT x = true) ∧ ∀ f ∈ t.fields, formT f.2 = true := by
  rcases formT_cases h2 with h | ⟨s, hs, h⟩ | ⟨x, rfl, hx⟩ | ⟨x, n, rfl, hn1, hn2, hx⟩ | ⟨l, rfl, hl⟩
  ·rcases h with rfl | rfl <;> exact ⟨fun x hx => (by cases hx), fun x hx => (by cases hx)⟩
  ·rcases h with rfl | rfl <;> exact ⟨fun x hx => (by cases hx), fun x hx => (by cases hx)⟩
  ·exact ⟨fun y hy => (by rw [List.mem_singleton.1 hy]; exact hx), fun x hx => (by cases hx)⟩
  ·exact ⟨fun y hy => (by rw [List.mem_singleton.1 hy]; exact hx), fun x hx => (by cases hx)⟩
  ·exact ⟨fun x hx => (by cases hx), fun f hf => (formF_all hl f hf).2.2⟩
 exact ⟨fun x hx => goodT_iff.2 ⟨shal_mono x _ _ (by omega) (h1.2.1 x hx), hf.1 x hx, h3.2 x hx⟩, fun f hx => goodT_iff.2 ⟨shal_mono f.2 _ _ (by omega) (h1.2.2 f hx), hf.2 f hx, h3.1.2 f hx⟩⟩
theorem arr_facts {x : Ty} {m : Int} (hc : chkT (Ty.arr x m) = 0) : 1 ≤ m ∧ m ≤ 65536 ∧ sizeT x = szT x ∧ m * szT x ≤ 65536 ∧ 0 ≤ szT x ∧ properT (Ty.arr x m) = !decide (sizeT x = 0) := by
 obtain ⟨h1, h2, h3⟩ := chkT_zero.1 hc
 have hg : goodT x = true := (good_parts hc).1 x (by simp [Ty.arr, Ty.elem])
 have hs : sizeT x = szT x := by rw [sizeT, if_pos hg]
 have hm : 1 ≤ m ∧ m ≤ 65536 := by
  rcases formT_cases h2 with h | ⟨s, hs, h⟩ | ⟨y, h, hx⟩ | ⟨y, n, h, hn1, hn2, hx⟩ | ⟨l, h, hl⟩
  ·rcases h with h | h <;> cases h
  ·rcases h with h | h <;> cases h
  ·cases h
  ·injection h with _ _ h
   omega
  ·cases h
 have hz := szT_nonneg x (goodT_iff.1 hg).2.1
 have hw : szT (Ty.arr x m) ≤ 65536 := by
  rw [wiT_eq] at h3
  simp only [Bool.and_eq_true, decide_eq_true_eq] at h3
  exact h3.1.1.2
 rw [sz_arr] at hw
 refine ⟨hm.1, hm.2, hs, by omega, hz, ?_⟩
 have hsa : sizeT (Ty.arr x m) = min (m * szT x) 65537 := by rw [sizeT, if_pos (goodT_iff.2 ⟨h1, h2, h3⟩), sz_arr]
 have hp : properT (Ty.arr x m) = decide (0 < sizeT (Ty.arr x m)) := rfl
 rw [hp, hsa, hs]
 by_cases h0 : szT x = 0
 ·rw [h0, decide_eq_true rfl, Int.mul_zero]
  rfl
 ·rw [decide_eq_false h0]
  have : 1 * 1 ≤ m * szT x := Int.mul_le_mul hm.1 (by omega) (by omega) (by omega)
  exact decide_eq_true (by omega)
theorem parts_len {t : Ty} (hc : chkT t = 0) (hp : properT t = true) : ((partsT t).length : Int) = countT t := by
 obtain ⟨h1, h2, h3⟩ := chkT_zero.1 hc
 rcases formT_cases h2 with h | ⟨s, hs, h⟩ | ⟨x, rfl, hx⟩ | ⟨x, n, rfl, hn1, hn2, hx⟩ | ⟨l, rfl, hl⟩
 ·rcases h with rfl | rfl
  ·exact absurd (hp.symm.trans (properT_no (by decide) (by decide))) (by simp)
  ·exact absurd (hp.symm.trans (properT_no (by decide) (by decide))) (by simp)
 ·rcases h with rfl | rfl
  ·exact absurd (hp.symm.trans (properT_no (by decide) (by decide))) (by simp)
  ·exact absurd (hp.symm.trans (properT_no (by decide) (by decide))) (by simp)
 ·exact absurd (hp.symm.trans (properT_no (by decide) (by decide))) (by simp)
 ·have hpt : partsT (Ty.arr x n) = rowParts x (sizeT x) n.toNat := partsT_arr rfl rfl
  rw [hpt, rowParts_len]
  show ((n.toNat : Nat) : Int) = n
  omega
 ·have hpt : partsT (Ty.str l) = l := partsT_ne (t := Ty.str l) (show (5 : Int) ≠ 4 by decide)
  rw [hpt]
  exact (countT_ne (show (5 : Int) ≠ 4 by decide)).symm
/-- The parts, or an error. -/
def rpT (t : Ty) : List (Int × Ty) × Nat := if properT t then (partsT t, 0) else ([], 16)
def RPartsIs (d : Nat) (T : Nat → Prop) (w : World) (r : List (Int × Ty) × Nat) (e : Ending) (w' : World) : Prop :=
 ∃ A c, e = .returned (.tuple #[.slice A r.1.length c, .int .i64 (r.2 : Nat)]) ∧ Sl (fdR (tyR d)) w' (fun b => T b ∨ w.heap.size ≤ b) (.slice A r.1.length c) r.1 ∧ Ext w w'
set_option maxRecDepth 100000 in
set_option maxHeartbeats 8000000 in
theorem rparts_any (d : Nat) (T : Nat → Prop) (w : World) (t : Ty) (v : Value) (hv : TyV d w T v t) (hc : chkT t = 0) : Calls Tryz.prog 61 #[v] w (RPartsIs d T w (rpT t)) := by
 obtain ⟨R, hR⟩ : ∃ R, rpT t = R := ⟨_, rfl⟩
 rw [hR]
 have HRR := hid hR
 unfold rpT at hR
 have hv2 := TyV.mono (S' := fun b => T b ∧ b < w.heap.size) (fun b hb hi => ⟨hb, hi.lt⟩) hv
 obtain ⟨A, na, ca, B, nb, cb, rfl, hA, hB, -⟩ := hv2
 have hla := hA.len
 have hlb := hB.len
 obtain ⟨hbc, hbm⟩ := hB.cap
 obtain ⟨W0, hW0⟩ : ∃ W0, w.alloc (.cells #[.int .i64 t.kind, .int .i64 t.size, .int .i64 t.count, .slice A na ca, .slice B nb cb] 25) = W0 := ⟨_, rfl⟩
 have hE0 : Ext w W0 := by rw [← hW0]; exact (Ext.refl w).alloc _
 have HP : Hid (W0.cell? ⟨w.heap.size, 0, none⟩ = some (.int .i64 t.kind) ∧ W0.cell? ⟨w.heap.size, 1, none⟩ = some (.int .i64 t.size) ∧ W0.cell? ⟨w.heap.size, 2, none⟩ = some (.int .i64 t.count) ∧ W0.cell? ⟨w.heap.size, 3, none⟩ = some (.slice A na ca) ∧ W0.cell? ⟨w.heap.size, 4, none⟩ = some (.slice B nb cb)) := hid (by
  rw [← hW0]
  exact ⟨by simp [go_sem], by simp [go_sem], by simp [go_sem], by simp [go_sem], by simp [go_sem]⟩)
 have HE0 := hid hE0
 have HA := hid (hA.ext hE0)
 have HB := hid (hB.ext hE0)
 have HLA := hid hla
 have HLB := hid hlb
 have hnb : nb ≤ 64 := by
  have h := (chkT_zero.1 hc).2.2
  rw [wiT_eq] at h
  simp only [Bool.and_eq_true, decide_eq_true_eq] at h
  omega
 obtain ⟨j0, hj, hj0, hj1, hj2⟩ := info_parts info_fd
 have HJ := hid hj
 have HJ0 := hid hj0
 have HJ1 := hid hj1
 have HJ2 := hid hj2
 have HCK := hid hc
 clear hj hj0 hj1 hj2 hla hlb hA hB hE0 hc hv
 obtain ⟨p0, p1, p2, p3, p4⟩ := HP.out
 unfold RPartsIs
 by_cases h4 : t.kind = 4
 ·obtain ⟨x, m, rfl⟩ : ∃ x m, t = Ty.arr x m := by
   rcases formT_cases (chkT_zero.1 HCK.out).2.1 with h | ⟨s, hs, h⟩ | ⟨x, rfl, hx⟩ | ⟨x, n, rfl, hn1, hn2, hx⟩ | ⟨l, rfl, hl⟩
   ·rcases h with rfl | rfl <;> exact absurd h4 (by decide)
   ·rcases h with rfl | rfl
    ·exact absurd h4 (by show ¬ (1 : Int) = 4; decide)
    ·exact absurd h4 (by show ¬ (2 : Int) = 4; decide)
   ·exact absurd h4 (by show ¬ (3 : Int) = 4; decide)
   ·exact ⟨x, n, rfl⟩
   ·exact absurd h4 (by show ¬ (5 : Int) = 4; decide)
  obtain ⟨hm1, hm2, hsx, hmx, hz0, hprop⟩ := arr_facts HCK.out
  have hna : na = 1 := by have := HLA.out; simpa [Ty.arr, Ty.elem] using this
  have hnb0 : nb = 0 := by have := HLB.out; simpa [Ty.arr, Ty.fields] using this
  subst hna hnb0
  obtain ⟨q, hq⟩ : ∃ q : Nat, m = (q : Int) := ⟨m.toNat, by omega⟩
  subst hq
  simp only [Ty.arr, Ty.kind, Ty.size, Ty.count, Ty.fields] at p0 p1 p2 p3 p4 hW0 ⊢
  have hae := HA.out
  simp only [Ty.arr, Ty.elem] at hae
  obtain ⟨d', b, off, A1, n1, c1, B1, m1, e1, hd, rfl, hv1, x0, x1, x2, x3, x4⟩ := hae.ty_at (k := 0) (t := x) rfl
  rw [Nat.zero_mul, Nat.add_zero] at x0 x1 x2 x3 x4
  have HXE := hid (And.intro x0 (And.intro x1 (And.intro x2 (And.intro x3 x4))))
  have HSC := hid (fun w' (hw : Ext W0 w') => sizeof31_any d' w' x _ ((hv1.ext hw).all))
  obtain ⟨z, hz⟩ : ∃ z, sizeT x = z := ⟨_, rfl⟩
  have HZ := hid hz
  rw [hz] at HSC hprop hsx
  have HPR := hid hprop
  have hzz : 0 ≤ z ∧ z ≤ 65536 := ⟨by omega, by rw [← hz]; exact sizeT_le x⟩
  have HV1 := hid hv1
  have HD := hid hd
  rw [← hsx] at hmx
  have hpt : partsT (Ty.arr x (q : Int)) = rowParts x z q := by rw [← hz]; exact partsT_arr rfl rfl
  have HPT := hid hpt
  clear hae hd hv1 hz hprop hsx hpt x0 x1 x2 x3 x4 h4 hz0
  go_enter Tryz.func61, Tryz.ntmps61
  go_upto_region 3 with (first
   | (at_builtin; refine wpList_appS rfl (.tmp 8) (.tmp 10) 23 rfl W0.heap.size 48 j0 _ 6 80 Tryz.underlying23 HJ.out HJ0.out HJ1.out HJ2.out rfl (fdR (tyR d)) (fdR_size _) _ [] rfl (OwnS.nil (T := fun b => T b ∧ b < w.heap.size)) B 0 cb ([] : List (Int × Ty)) (fun b => T b ∧ b < w.heap.size) rfl HB.out (fun b hb _ => ⟨hb, own_nil⟩) (by simp <;> omega) (by simp <;> omega) (Nat.le_refl _) ?_; intro A3 c3 w3 hown3 hg3 hloc; have HO3 : Hid (OwnS (fdR (tyR d)) w3 W0.heap.size 48 (fun b => T b ∧ b < w.heap.size) (.slice A3 0 c3) ([] : List (Int × Ty))) := hid (by simpa using hown3); have HX3 := hid ((Ext.refl W0).grown hg3 (fun k hk => (own_nil hk.symm).elim)); clear hown3 hg3 hloc p0 p1 p2 p3 p4; have p0 := HX3.out.cell HP.out.1; have p1 := HX3.out.cell HP.out.2.1; have p2 := HX3.out.cell HP.out.2.2.1; have p3 := HX3.out.cell HP.out.2.2.2.1; have p4 := HX3.out.cell HP.out.2.2.2.2; simp only [List.length_nil, Nat.zero_add])
   | fail)
  have x0 := HX3.out.cell HXE.out.1
  have x1 := HX3.out.cell HXE.out.2.1
  have x2 := HX3.out.cell HXE.out.2.2.1
  have x3 := HX3.out.cell HXE.out.2.2.2.1
  have x4 := HX3.out.cell HXE.out.2.2.2.2
  clear hW0
  go_wp2_with fail
  refine (HSC.out _ HX3.out).mono ?_
  rintro e w5 ⟨rfl, hx5⟩
  have HX5 := hid (HX3.out.trans hx5)
  clear x0 x1 x2 x3 x4 p0 p1 p2 p3 p4
  by_cases h0 : z = 0
  ·have g0 : (z == 0) = true := by simp [h0]
   have HRV : Hid (R = ([], 16)) := hid (by rw [← hR, HPR.out, h0]; rfl)
   clear h0 hx5
   go_wp2
   go_ret2
   refine ⟨none, 0, ?_, ?_, HE0.out.trans HX5.out⟩
   ·rw [HRV.out]; rfl
   ·rw [HRV.out]; exact Sl.nil
  have g0 : (z == 0) = false := by simp [h0]
  have HRV0 : Hid (R = (rowParts x z q, 0)) := hid (by rw [← hR, HPR.out, decide_eq_false h0, HPT.out]; rfl)
  have HO5 : Hid (OwnS (fdR (tyR d)) w5 W0.heap.size 48 (fun b => T b ∧ b < w.heap.size) (.slice A3 0 c3) (rowParts x z 0)) := hid (HO3.out.ext hx5)
  clear hx5 h0
  go_wp2
  go_loopw [6, 4] (fun i s4 wr => ∃ (k : Nat) (A4 : Option Addr) (c4 : Nat), k ≤ q ∧ i = .int .i64 k ∧ s4 = .slice A4 k c4 ∧ Hid (OwnS (fdR (tyR d)) wr W0.heap.size 48 (fun b => T b ∧ b < w.heap.size) (.slice A4 k c4) (rowParts x z k)) ∧ Hid (Ext W0 wr)) (fun i _ _ => q - (intOf i).toNat)
  case atStart => exact ⟨0, A3, c3, by omega, rfl, rfl, HO5, HX5⟩
  case round =>
   obtain ⟨k, A4, c4, hk, rfl, rfl, HO, HX⟩ := hrel
   have p2 := HX.out.cell HP.out.2.2.1
   simp only [Ty.arr, Ty.count] at p2
   by_cases h1 : k < q
   ·have hkq : (k : Int) < (q : Int) := by omega
    have p3 := HX.out.cell HP.out.2.2.2.1
    have x0 := HX.out.cell HXE.out.1
    have x1 := HX.out.cell HXE.out.2.1
    have x2 := HX.out.cell HXE.out.2.2.1
    have x3 := HX.out.cell HXE.out.2.2.2.1
    have x4 := HX.out.cell HXE.out.2.2.2.2
    have hy0 : 0 ≤ (k : Int) * z := Int.mul_nonneg (by omega) hzz.1
    have hy1 : (k : Int) * z ≤ 65536 * 65536 := Int.mul_le_mul (by omega) hzz.2 hzz.1 (by omega)
    obtain ⟨y, hy⟩ : ∃ y, (k : Int) * z = y := ⟨_, rfl⟩
    rw [hy] at hy0 hy1
    have hw : IntKind.i64.wrap (z * (k : Int)) = y := by rw [Int.mul_comm, hy]; exact IntWalk.i64_in _ (by omega)
    have HREL : Hid ((fdR (tyR d)).rel wr (fun b => (T b ∧ b < w.heap.size) ∧ some b ≠ (Value.slice A4 k c4).ownBlock) [.int .i64 y, .int .i64 x.kind, .int .i64 x.size, .int .i64 x.count, .slice A1 n1 c1, .slice B1 m1 e1] (y, x)) := hid (by
     rw [HD.out]
     refine fd_rel.2 ⟨A1, n1, c1, B1, m1, e1, rfl, by show i64b y; unfold i64b; omega, (HV1.out.ext HX.out).mono fun b hb _ => ⟨hb, fun e => ?_⟩⟩
     have hb' : b < w.heap.size := hb.2
     have := (HO.out.block b e.symm).1
     have := HE0.out.size
     omega)
    have HRP : Hid (rowParts x z (k + 1) = rowParts x z k ++ [(y, x)]) := hid (by rw [rowParts, hy])
    have HRL := hid (rowParts_len x z k)
    clear hy
    go_wp2_with (first
     | (at_builtin; refine wpList_app1l rfl (.tmp 28) (.tmp 37) 23 rfl W0.heap.size 48 j0 _ 6 80 Tryz.underlying23 HJ.out HJ0.out HJ1.out HJ2.out rfl (fdR (tyR d)) (fdR_size _) (.slice A4 k c4) (rowParts x z k) rfl HO.out wr.heap.size rfl (y, x) rfl HREL.out (by have := HRL.out; omega) (by have := HRL.out; omega) (by exact HX.out.size) ?_; intro A6 c6 w6 hown6 hg6 hloc6; rw [HRL.out] at hown6; have HO6 := hid hown6; have HX6 := hid ((HX.out.alloc _).grown hg6 (fun q hq => (HO.out.block q hq).1)); clear hown6 hg6 hloc6; rw [HRL.out])
     | fail)
    clear p2 p3 x0 x1 x2 x3 x4
    first
     | go_roundw
     | refine ⟨?rel, ?measure⟩
    case rel => exact ⟨k + 1, A6, c6, by omega, by go_num, rfl, hid (by rw [HRP.out]; exact HO6.out), HX6⟩
    case measure => simp [intOf]; omega
   ·have hkq : ¬ (k : Int) < (q : Int) := by omega
    obtain rfl : k = q := by omega
    have p0 := HX.out.cell HP.out.1
    simp only [Ty.arr, Ty.kind] at p0
    have HLSN : Hid (k = (rowParts x z k).length) := hid (rowParts_len x z k).symm
    have HSLL : Hid (Sl (fdR (tyR d)) wr (fun b => T b ∨ w.heap.size ≤ b) (.slice A4 k c4) (rowParts x z k)) := hid (HO.out.slT (fun b hb => .inl hb.1) (fun b hb => .inr (by have h1 := (HO.out.block b hb).1; have h2 := HE0.out.size; omega)))
    have HBAD : Hid (∀ f ∈ rowParts x z k, zeroF f = true → R = ([], 16)) := hid (fun f hf hz => by
     have h1 := (rowParts_mem x z k f hf).1
     unfold zeroF at hz
     rw [h1, HZ.out] at hz
     simp at hz g0
     exact absurd hz g0)
    have HGOOD : Hid (((rowParts x z k).all fun f => !zeroF f) = true → R = (rowParts x z k, 0)) := hid (fun _ => HRV0.out)
    obtain ⟨V, hV⟩ : ∃ V, V = wr := ⟨_, rfl⟩
    obtain rfl := hV
    have HVX := hid (HE0.out.trans HX.out)
    go_wp2
    clear p2 p0
    go_loopw [7] (fun i wr => ∃ ii : Nat, ii ≤ k ∧ i = .int .i64 ii ∧ Hid (Ext V wr) ∧ Hid ((((rowParts x z k)).take ii).all (fun f => !zeroF f) = true)) (fun i _ => k - (intOf i).toNat)
    case atStart => exact ⟨0, by omega, rfl, hid (Ext.refl _), hid rfl⟩
    case round =>
     obtain ⟨ii, hii, rfl, HXR, HA⟩ := hrel
     by_cases h1 : ii < k
     ·obtain ⟨f, hf⟩ : ∃ f, ((rowParts x z k))[ii]? = some f := ⟨_, List.getElem?_eq_getElem (by have := HLSN.out; omega)⟩
      obtain ⟨d2, b2, off2, A2, n2, c2, B2, m2, e2, hd2, hbo, hv2, hi2, x0, x1, x2, x3, x4, x5⟩ := (HSLL.out.ext HXR.out).fd_at hf
      subst hbo
      have HC := hid (sizeof31_any d2 wr f.2 _ hv2.all)
      obtain ⟨z, hz⟩ : ∃ z, sizeT f.2 = z := ⟨_, rfl⟩
      rw [hz] at HC
      have HZ := hid hz
      have HFF := hid hf
      have hkn : (ii : Int) < ((k : Nat) : Int) := by omega
      clear hd2 hv2 hi2 hf hz
      go_wp2_with fail
      refine (HC.out).mono ?_
      rintro e w5 ⟨rfl, hx5⟩
      have HX5 := hid (HXR.out.trans hx5)
      clear hx5 x0 x1 x2 x3 x4 x5
      by_cases hz : z = 0
      ·have g1 : (z == 0) = true := by simp [hz]
       have hzf : zeroF f = true := by unfold zeroF; rw [HZ.out]; simp [hz]
       have HRV := hid (HBAD.out f (List.mem_of_getElem? HFF.out) hzf)
       clear hz hzf
       go_wp2
       go_ret2
       refine ⟨none, 0, ?_, ?_, HVX.out.trans HX5.out⟩
       ·rw [HRV.out]; rfl
       ·rw [HRV.out]; exact Sl.nil
      ·have g1 : (z == 0) = false := by simp [hz]
       have hzf : zeroF f = false := by unfold zeroF; rw [HZ.out]; simp [hz]
       have HNZ := hid hzf
       clear hz hzf
       go_wp2
       go_roundw
       case rel =>
        first
         | exact ⟨ii + 1, by omega, by go_num, HX5, hid (allT_step HFF.out (by rw [HNZ.out]; rfl) HA.out)⟩
         | ((repeat apply Exists.intro); refine ⟨?_, rfl⟩; exact ⟨ii + 1, by omega, by go_num, HX5, hid (allT_step HFF.out (by rw [HNZ.out]; rfl) HA.out)⟩)
       case measure => simp [intOf]; omega
     ·have hkn : ¬ (ii : Int) < ((k : Nat) : Int) := by omega
      obtain rfl : ii = k := by omega
      have hall := HA.out
      rw [List.take_of_length_le (by have := HLSN.out; omega)] at hall
      have HRV := hid (HGOOD.out hall)
      clear hall
      go_wp2
      go_ret2
      refine ⟨A4, c4, ?_, ?_, HVX.out.trans HXR.out⟩
      ·rw [HRV.out, ← HLSN.out]; rfl
      ·rw [HRV.out, ← HLSN.out]
       exact HSLL.out.ext HXR.out
 ·by_cases h5 : t.kind = 5
  ·obtain ⟨l, rfl⟩ : ∃ l, t = Ty.str l := by
    rcases formT_cases (chkT_zero.1 HCK.out).2.1 with h | ⟨s, hs, h⟩ | ⟨x, rfl, hx⟩ | ⟨x, n, rfl, hn1, hn2, hx⟩ | ⟨l, rfl, hl⟩
    ·rcases h with rfl | rfl
     ·exact absurd h5 (by show ¬ (0 : Int) = 5; decide)
     ·exact absurd h5 (by show ¬ (6 : Int) = 5; decide)
    ·rcases h with rfl | rfl
     ·exact absurd h5 (by show ¬ (1 : Int) = 5; decide)
     ·exact absurd h5 (by show ¬ (2 : Int) = 5; decide)
    ·exact absurd h5 (by show ¬ (3 : Int) = 5; decide)
    ·exact absurd h5 (by show ¬ (4 : Int) = 5; decide)
    ·exact ⟨l, rfl⟩
   simp only [Ty.str, Ty.kind, Ty.size, Ty.count, Ty.fields] at p0 p1 p2 p3 p4 hW0 ⊢
   have HLSN : Hid (nb = l.length) := HLB
   have hpt : partsT (Ty.str l) = l := partsT_ne (t := Ty.str l) (show (5 : Int) ≠ 4 by decide)
   have hpr : properT (Ty.str l) = !l.any zeroF := properT_str
   rw [hpt, hpr] at hR
   have HR2 := hid hR
   have HBAD : Hid (∀ f ∈ l, zeroF f = true → R = ([], 16)) := hid (fun f hf hz => by
    rw [← HR2.out, List.any_eq_true.2 ⟨f, hf, hz⟩]; rfl)
   have HGOOD : Hid ((l.all fun f => !zeroF f) = true → R = (l, 0)) := hid (fun h => by
    rw [← HR2.out, show l.any zeroF = false from by
     rw [Bool.eq_false_iff]
     intro e
     obtain ⟨f, hf, hz⟩ := List.any_eq_true.1 e
     have := List.all_eq_true.1 h f hf
     rw [hz] at this
     cases this]
    rfl)
   clear hpt hpr hR h4 h5
   go_enter Tryz.func61, Tryz.ntmps61
   go_upto_region 3 with (first
    | (at_builtin; refine wpList_appS rfl (.tmp 8) (.tmp 10) 23 rfl W0.heap.size 48 j0 _ 6 80 Tryz.underlying23 HJ.out HJ0.out HJ1.out HJ2.out rfl (fdR (tyR d)) (fdR_size _) _ [] rfl (OwnS.nil (T := fun b => T b ∧ b < w.heap.size)) B nb cb l (fun b => T b ∧ b < w.heap.size) rfl HB.out (fun b hb _ => ⟨hb, own_nil⟩) (by simp <;> omega) (by simp <;> omega) (Nat.le_refl _) ?_; intro A3 c3 w3 hown3 hg3 hloc; have HO3 : Hid (OwnS (fdR (tyR d)) w3 W0.heap.size 48 (fun b => T b ∧ b < w.heap.size) (.slice A3 nb c3) l) := hid (by simpa using hown3); have HX3 := hid ((Ext.refl W0).grown hg3 (fun k hk => (own_nil hk.symm).elim)); clear hown3 hg3 hloc p0 p1 p2 p3 p4; have p0 := HX3.out.cell HP.out.1; have p1 := HX3.out.cell HP.out.2.1; have p2 := HX3.out.cell HP.out.2.2.1; have p3 := HX3.out.cell HP.out.2.2.2.1; have p4 := HX3.out.cell HP.out.2.2.2.2; simp only [List.length_nil, Nat.zero_add])
    | fail)
   clear hW0
   have HSLL : Hid (Sl (fdR (tyR d)) w3 (fun b => T b ∨ w.heap.size ≤ b) (.slice A3 nb c3) l) := hid (HO3.out.slT (fun b hb => .inl hb.1) (fun b hb => .inr (by have h1 := (HO3.out.block b hb).1; have h2 := HE0.out.size; omega)))
   have HVX := hid (HE0.out.trans HX3.out)
   go_wp2
   clear p0 p1 p2 p3 p4
   go_loopw [7] (fun i wr => ∃ ii : Nat, ii ≤ nb ∧ i = .int .i64 ii ∧ Hid (Ext w3 wr) ∧ Hid (((l).take ii).all (fun f => !zeroF f) = true)) (fun i _ => nb - (intOf i).toNat)
   case atStart => exact ⟨0, by omega, rfl, hid (Ext.refl _), hid rfl⟩
   case round =>
    obtain ⟨ii, hii, rfl, HXR, HA⟩ := hrel
    by_cases h1 : ii < nb
    ·obtain ⟨f, hf⟩ : ∃ f, (l)[ii]? = some f := ⟨_, List.getElem?_eq_getElem (by have := HLSN.out; omega)⟩
     obtain ⟨d2, b2, off2, A2, n2, c2, B2, m2, e2, hd2, hbo, hv2, hi2, x0, x1, x2, x3, x4, x5⟩ := (HSLL.out.ext HXR.out).fd_at hf
     subst hbo
     have HC := hid (sizeof31_any d2 wr f.2 _ hv2.all)
     obtain ⟨z, hz⟩ : ∃ z, sizeT f.2 = z := ⟨_, rfl⟩
     rw [hz] at HC
     have HZ := hid hz
     have HFF := hid hf
     have hkn : (ii : Int) < ((nb : Nat) : Int) := by omega
     clear hd2 hv2 hi2 hf hz
     go_wp2_with fail
     refine (HC.out).mono ?_
     rintro e w5 ⟨rfl, hx5⟩
     have HX5 := hid (HXR.out.trans hx5)
     clear hx5 x0 x1 x2 x3 x4 x5
     by_cases hz : z = 0
     ·have g1 : (z == 0) = true := by simp [hz]
      have hzf : zeroF f = true := by unfold zeroF; rw [HZ.out]; simp [hz]
      have HRV := hid (HBAD.out f (List.mem_of_getElem? HFF.out) hzf)
      clear hz hzf
      go_wp2
      go_ret2
      refine ⟨none, 0, ?_, ?_, HVX.out.trans HX5.out⟩
      ·rw [HRV.out]; rfl
      ·rw [HRV.out]; exact Sl.nil
     ·have g1 : (z == 0) = false := by simp [hz]
      have hzf : zeroF f = false := by unfold zeroF; rw [HZ.out]; simp [hz]
      have HNZ := hid hzf
      clear hz hzf
      go_wp2
      go_roundw
      case rel =>
       first
        | exact ⟨ii + 1, by omega, by go_num, HX5, hid (allT_step HFF.out (by rw [HNZ.out]; rfl) HA.out)⟩
        | ((repeat apply Exists.intro); refine ⟨?_, rfl⟩; exact ⟨ii + 1, by omega, by go_num, HX5, hid (allT_step HFF.out (by rw [HNZ.out]; rfl) HA.out)⟩)
      case measure => simp [intOf]; omega
    ·have hkn : ¬ (ii : Int) < ((nb : Nat) : Int) := by omega
     obtain rfl : ii = nb := by omega
     have hall := HA.out
     rw [List.take_of_length_le (by have := HLSN.out; omega)] at hall
     have HRV := hid (HGOOD.out hall)
     clear hall
     go_wp2
     go_ret2
     refine ⟨A3, c3, ?_, ?_, HVX.out.trans HXR.out⟩
     ·rw [HRV.out, ← HLSN.out]; rfl
     ·rw [HRV.out, ← HLSN.out]
      exact HSLL.out.ext HXR.out
  ·have n1 : (t.kind == 4) = false := by simp [h4]
   have n2 : (t.kind != 5) = true := by simp [h5]
   have hp : properT t = false := by
    obtain ⟨tk, ts, tc, te, tf⟩ := t
    exact properT_no h4 h5
   have HRV : Hid (R = ([], 16)) := hid (by rw [← hR, hp]; rfl)
   clear h4 h5 hp hR
   go_enter Tryz.func61, Tryz.ntmps61
   go_upto_region 3 with (first
    | (at_builtin; refine wpList_appS rfl (.tmp 8) (.tmp 10) 23 rfl W0.heap.size 48 j0 _ 6 80 Tryz.underlying23 HJ.out HJ0.out HJ1.out HJ2.out rfl (fdR (tyR d)) (fdR_size _) _ [] rfl (OwnS.nil (T := fun b => T b ∧ b < w.heap.size)) B nb cb t.fields (fun b => T b ∧ b < w.heap.size) rfl HB.out (fun b hb _ => ⟨hb, own_nil⟩) (by simp <;> omega) (by simp <;> omega) (Nat.le_refl _) ?_; intro A3 c3 w3 hown3 hg3 hloc; have HO3 : Hid (OwnS (fdR (tyR d)) w3 W0.heap.size 48 (fun b => T b ∧ b < w.heap.size) (.slice A3 nb c3) t.fields) := hid (by simpa using hown3); have HX3 := hid ((Ext.refl W0).grown hg3 (fun k hk => (own_nil hk.symm).elim)); clear hown3 hg3 hloc p0 p1 p2 p3 p4; have p0 := HX3.out.cell HP.out.1; have p1 := HX3.out.cell HP.out.2.1; have p2 := HX3.out.cell HP.out.2.2.1; have p3 := HX3.out.cell HP.out.2.2.2.1; have p4 := HX3.out.cell HP.out.2.2.2.2; simp only [List.length_nil, Nat.zero_add])
    | fail)
   clear hW0
   go_wp2
   go_ret2
   refine ⟨none, 0, ?_, ?_, HE0.out.trans HX3.out⟩
   ·rw [HRV.out]; rfl
   ·rw [HRV.out]; exact Sl.nil
end Go.Proofs.YtacmjhcfjhpkeaaGreatDoor

namespace Go.Proofs.YtacmjhcfjhpkeaaGreatDoor
open Go.RowKit Go.Deco
set_option linter.unusedSimpArgs false
set_option linter.unusedVariables false

theorem rpT_yes {t : Ty} (h : properT t = true) : rpT t = (partsT t, 0) := by rw [rpT, h]; rfl
theorem rpT_no {t : Ty} (h : properT t = false) : rpT t = ([], 16) := by rw [rpT, h]; rfl
set_option maxRecDepth 100000 in
set_option maxHeartbeats 8000000 in
theorem rmerge_any (d : Nat) (w : World) (a b : Ty) (va vb : Value) (hva : TyV d w All va a) (hvb : TyV d w All vb b) :
  Calls Tryz.prog 28 #[va, vb] w (TyErr (d + 3) (fun b => b < w.heap.size) w (mergeT a b)) := by
 have HVA := hid hva
 have HVB := hid hvb
 obtain ⟨A, na, ca, B, nb, cb, rfl, -⟩ := hva
 obtain ⟨A', na', ca', B', nb', cb', rfl, -⟩ := hvb
 obtain ⟨R, hR⟩ : ∃ R, mergeT a b = R := ⟨_, rfl⟩
 rw [hR]
 unfold mergeT at hR
 have HRR := hid hR
 obtain ⟨W0, hW0⟩ : ∃ W0, ((w.alloc (.cells #[.int .i64 a.kind, .int .i64 a.size, .int .i64 a.count, .slice A na ca, .slice B nb cb] 25)).alloc (.cells #[.int .i64 b.kind, .int .i64 b.size, .int .i64 b.count, .slice A' na' ca', .slice B' nb' cb'] 25)).alloc (.cells #[.int .i64 0, .int .i64 0, .int .i64 0, .slice none 0 0, .slice none 0 0] 25) = W0 := ⟨_, rfl⟩
 have hE0 : Ext w W0 := by rw [← hW0]; exact (((Ext.refl w).alloc _).alloc _).alloc _
 have hs0 : W0.heap.size = w.heap.size + 3 := by rw [← hW0]; simp
 have HS0 := hid hs0
 have o0 : W0.cell? ⟨w.heap.size, 0, none⟩ = some (.int .i64 a.kind) := by rw [← hW0]; simp [go_sem]
 have o1 : W0.cell? ⟨w.heap.size, 1, none⟩ = some (.int .i64 a.size) := by rw [← hW0]; simp [go_sem]
 have o2 : W0.cell? ⟨w.heap.size, 2, none⟩ = some (.int .i64 a.count) := by rw [← hW0]; simp [go_sem]
 have o3 : W0.cell? ⟨w.heap.size, 3, none⟩ = some (.slice A na ca) := by rw [← hW0]; simp [go_sem]
 have o4 : W0.cell? ⟨w.heap.size, 4, none⟩ = some (.slice B nb cb) := by rw [← hW0]; simp [go_sem]
 have u0 : W0.cell? ⟨w.heap.size + 1, 0, none⟩ = some (.int .i64 b.kind) := by rw [← hW0]; simp [go_sem]
 have u1 : W0.cell? ⟨w.heap.size + 1, 1, none⟩ = some (.int .i64 b.size) := by rw [← hW0]; simp [go_sem]
 have u2 : W0.cell? ⟨w.heap.size + 1, 2, none⟩ = some (.int .i64 b.count) := by rw [← hW0]; simp [go_sem]
 have u3 : W0.cell? ⟨w.heap.size + 1, 3, none⟩ = some (.slice A' na' ca') := by rw [← hW0]; simp [go_sem]
 have u4 : W0.cell? ⟨w.heap.size + 1, 4, none⟩ = some (.slice B' nb' cb') := by rw [← hW0]; simp [go_sem]
 have HB0 : Hid (Box5 W0 (w.heap.size + 1 + 1) (.int .i64 0) (.int .i64 0) (.int .i64 0) (.slice none 0 0) (.slice none 0 0)) := hid (by
  rw [← hW0]
  have h := Box5.new ((w.alloc (.cells #[.int .i64 a.kind, .int .i64 a.size, .int .i64 a.count, .slice A na ca, .slice B nb cb] 25)).alloc (.cells #[.int .i64 b.kind, .int .i64 b.size, .int .i64 b.count, .slice A' na' ca', .slice B' nb' cb'] 25)) (.int .i64 0) (.int .i64 0) (.int .i64 0) (.slice none 0 0) (.slice none 0 0) 25
  simpa using h)
 have HE0 := hid hE0
 obtain ⟨za, hza⟩ : ∃ za, chkT a = za := ⟨_, rfl⟩
 obtain ⟨zb, hzb⟩ : ∃ zb, chkT b = zb := ⟨_, rfl⟩
 have HCA := hid (check31_any d W0 a _ (HVA.out.ext HE0.out))
 have HCB := hid (fun w' (h : Ext w w') => check31_any d w' b _ (HVB.out.ext h))
 rw [hza] at HCA
 rw [hzb] at HCB
 have HZA := hid hza
 have HZB := hid hzb
 obtain ⟨i0, hi0, hz0, hz1, hz2⟩ := info_parts info_fd
 have HI := hid hi0
 have HI0 := hid hz0
 have HI1 := hid hz1
 have HI2 := hid hz2
 unfold TyErr
 clear hR hza hzb hE0 hs0 hi0 hz0 hz1 hz2
 go_enter Tryz.func28, Tryz.ntmps28
 go_wp2_with fail
 refine (HCA.out).mono ?_
 rintro e w1 ⟨rfl, hx1⟩
 have HX1 := hid (HE0.out.trans hx1)
 have HB1 := hid (HB0.out.ext hx1)
 have o0 := hx1.cell o0
 have o1 := hx1.cell o1
 have o2 := hx1.cell o2
 have o3 := hx1.cell o3
 have o4 := hx1.cell o4
 have u0 := hx1.cell u0
 have u1 := hx1.cell u1
 have u2 := hx1.cell u2
 have u3 := hx1.cell u3
 have u4 := hx1.cell u4
 clear hx1 hW0
 by_cases ha : za = 0
 case neg =>
  have n0 : ((za : Int) != 0) = true := by simp; omega
  have HRV : Hid (R = (Ty.unk, za)) := hid (by rw [← HRR.out, if_pos (by rw [HZA.out]; exact ha), HZA.out])
  clear ha
  have r0 := HB1.out.1
  have r1 := HB1.out.2.1
  have r2 := HB1.out.2.2.1
  have r3 := HB1.out.2.2.2.1
  have r4 := HB1.out.2.2.2.2.1
  have f0 := HB1.out.2.2.2.2.2 0
  have f1 := HB1.out.2.2.2.2.2 1
  have f2 := HB1.out.2.2.2.2.2 2
  have f3 := HB1.out.2.2.2.2.2 3
  have f4 := HB1.out.2.2.2.2.2 4
  have hc := set5_cells r0 r1 r2 r3 r4 (.int .i64 0) (.int .i64 0) (.int .i64 0) (.slice none 0 0) (.slice none 0 0)
  have hx := set5_ext HX1.out (b := w.heap.size + 1 + 1) (by omega) (.int .i64 0) (.int .i64 0) (.int .i64 0) (.slice none 0 0) (.slice none 0 0)
  obtain ⟨W6, hW6⟩ : ∃ W6, ((((w1.setCell ⟨w.heap.size + 1 + 1, 0, none⟩ (.int .i64 0)).setCell ⟨w.heap.size + 1 + 1, 1, none⟩ (.int .i64 0)).setCell ⟨w.heap.size + 1 + 1, 2, none⟩ (.int .i64 0)).setCell ⟨w.heap.size + 1 + 1, 3, none⟩ (.slice none 0 0)).setCell ⟨w.heap.size + 1 + 1, 4, none⟩ (.slice none 0 0) = W6 := ⟨_, rfl⟩
  rw [hW6] at hc hx
  obtain ⟨t0, t1, t2, t3, t4⟩ := hc
  have HX6 := hid hx
  have HW6 := hid hW6
  clear hx hW6
  go_wp2
  rw [HW6.out]
  clear r0 r1 r2 r3 r4
  refine bodyPost_ret (v := .tuple #[.agg #[.int .i64 0, .int .i64 0, .int .i64 0, .slice none 0 0, .slice none 0 0], .int .i64 za]) (by simp [results, Tryz.results28, go_sem, t0, t1, t2, t3, t4]) rfl ?_
  refine ⟨_, by first | (rw [HRV.out]; done) | (rw [HRV.out]; rfl), ?_, HX6.out⟩
  rw [HRV.out]
  exact tyV_leaf _ _ _ 0 0 (by unfold i64b; omega) (by unfold i64b; omega)
 subst ha
 have HCB1 := hid (HCB.out w1 HX1.out)
 go_wp2_with fail
 refine (HCB1.out).mono ?_
 rintro e w2 ⟨rfl, hx2⟩
 have HX2 := hid (HX1.out.trans hx2)
 have HB2 := hid (HB1.out.ext hx2)
 have o0 := hx2.cell o0
 have o1 := hx2.cell o1
 have o2 := hx2.cell o2
 have o3 := hx2.cell o3
 have o4 := hx2.cell o4
 have u0 := hx2.cell u0
 have u1 := hx2.cell u1
 have u2 := hx2.cell u2
 have u3 := hx2.cell u3
 have u4 := hx2.cell u4
 clear hx2
 by_cases hb : zb = 0
 case neg =>
  have n0 : ((zb : Int) != 0) = true := by simp; omega
  have HRV : Hid (R = (Ty.unk, zb)) := hid (by rw [← HRR.out, if_neg (by rw [HZA.out]; simp), if_pos (by rw [HZB.out]; exact hb), HZB.out])
  clear hb
  have r0 := HB2.out.1
  have r1 := HB2.out.2.1
  have r2 := HB2.out.2.2.1
  have r3 := HB2.out.2.2.2.1
  have r4 := HB2.out.2.2.2.2.1
  have f0 := HB2.out.2.2.2.2.2 0
  have f1 := HB2.out.2.2.2.2.2 1
  have f2 := HB2.out.2.2.2.2.2 2
  have f3 := HB2.out.2.2.2.2.2 3
  have f4 := HB2.out.2.2.2.2.2 4
  have hc := set5_cells r0 r1 r2 r3 r4 (.int .i64 0) (.int .i64 0) (.int .i64 0) (.slice none 0 0) (.slice none 0 0)
  have hx := set5_ext HX2.out (b := w.heap.size + 1 + 1) (by omega) (.int .i64 0) (.int .i64 0) (.int .i64 0) (.slice none 0 0) (.slice none 0 0)
  obtain ⟨W6, hW6⟩ : ∃ W6, ((((w2.setCell ⟨w.heap.size + 1 + 1, 0, none⟩ (.int .i64 0)).setCell ⟨w.heap.size + 1 + 1, 1, none⟩ (.int .i64 0)).setCell ⟨w.heap.size + 1 + 1, 2, none⟩ (.int .i64 0)).setCell ⟨w.heap.size + 1 + 1, 3, none⟩ (.slice none 0 0)).setCell ⟨w.heap.size + 1 + 1, 4, none⟩ (.slice none 0 0) = W6 := ⟨_, rfl⟩
  rw [hW6] at hc hx
  obtain ⟨t0, t1, t2, t3, t4⟩ := hc
  have HX6 := hid hx
  have HW6 := hid hW6
  clear hx hW6
  go_wp2
  rw [HW6.out]
  clear r0 r1 r2 r3 r4
  refine bodyPost_ret (v := .tuple #[.agg #[.int .i64 0, .int .i64 0, .int .i64 0, .slice none 0 0, .slice none 0 0], .int .i64 zb]) (by simp [results, Tryz.results28, go_sem, t0, t1, t2, t3, t4]) rfl ?_
  refine ⟨_, by first | (rw [HRV.out]; done) | (rw [HRV.out]; rfl), ?_, HX6.out⟩
  rw [HRV.out]
  exact tyV_leaf _ _ _ 0 0 (by unfold i64b; omega) (by unfold i64b; omega)
 subst hb
 have hrr := HRR.out
 rw [if_neg (by rw [HZA.out]; simp), if_neg (by rw [HZB.out]; simp)] at hrr
 have HR3 := hid hrr
 have HPA := hid (rparts_any d (fun b => b < w.heap.size) w2 a _ (TyV.ext (TyV.mono (S' := fun b => b < w.heap.size) (fun b _ hi => hi.lt) HVA.out) HX2.out) HZA.out)
 have HPB := hid (fun w' (h : Ext w w') => rparts_any d (fun b => b < w.heap.size) w' b _ (TyV.ext (TyV.mono (S' := fun b => b < w.heap.size) (fun b _ hi => hi.lt) HVB.out) h) HZB.out)
 obtain ⟨pa, hpa⟩ : ∃ pa, rpT a = pa := ⟨_, rfl⟩
 obtain ⟨pb, hpb⟩ : ∃ pb, rpT b = pb := ⟨_, rfl⟩
 rw [hpa] at HPA
 rw [hpb] at HPB
 obtain ⟨P, ea⟩ := pa
 obtain ⟨Q, eb⟩ := pb
 obtain ⟨pl, hpl⟩ : ∃ pl, P.length = pl := ⟨_, rfl⟩
 obtain ⟨ql, hql⟩ : ∃ ql, Q.length = ql := ⟨_, rfl⟩
 have HPL := hid hpl
 have HQL := hid hql
 have HPAE := hid hpa
 have HPBE := hid hpb
 unfold RPartsIs at HPA HPB
 simp only at HPA HPB
 rw [hpl] at HPA
 rw [hql] at HPB
 clear hrr hpa hpb hpl hql
 go_wp2_with fail
 refine (HPA.out).mono ?_
 rintro e w3 ⟨A7, c7, rfl, hs7, hx3⟩
 have HX3 := hid (HX2.out.trans hx3)
 have HB3 := hid (HB2.out.ext hx3)
 have HS7 := hid (hs7.mono (S' := fun b => b < w.heap.size ∨ W0.heap.size ≤ b) fun b hb _ => by
  rcases hb with hb | hb
  ·exact .inl hb
  ·have h1 := HX2.out.size
   have h2 : W0.heap.size ≤ w2.heap.size := by have := HB2.out.lt; have := HS0.out; omega
   exact .inr (by omega))
 have o0 := hx3.cell o0
 have o1 := hx3.cell o1
 have o2 := hx3.cell o2
 have o3 := hx3.cell o3
 have o4 := hx3.cell o4
 have u0 := hx3.cell u0
 have u1 := hx3.cell u1
 have u2 := hx3.cell u2
 have u3 := hx3.cell u3
 have u4 := hx3.cell u4
 clear hx3 hs7
 have HPB3 := hid (HPB.out w3 HX3.out)
 go_wp2_with fail
 refine (HPB3.out).mono ?_
 rintro e w4 ⟨A8, c8, rfl, hs8, hx4⟩
 have HX4 := hid (HX3.out.trans hx4)
 have HB4 := hid (HB3.out.ext hx4)
 have HW4 : Hid (W0.heap.size ≤ w4.heap.size) := hid (by have := HB4.out.lt; have := HS0.out; omega)
 have HS8 := hid (hs8.mono (S' := fun b => (b < w.heap.size ∨ W0.heap.size ≤ b) ∧ b < w4.heap.size) fun b hb hi => ⟨by
  rcases hb with hb | hb
  ·exact .inl hb
  ·have h2 : W0.heap.size ≤ w3.heap.size := by have := HB3.out.lt; have := HS0.out; omega
   exact .inr (by omega), hi.lt⟩)
 have HS7' := hid ((HS7.out.ext hx4).mono (S' := fun b => (b < w.heap.size ∨ W0.heap.size ≤ b) ∧ b < w4.heap.size) fun b hb hi => ⟨hb, hi.lt⟩)
 clear hx4 hs8 o0 o1 o2 o3 o4 u0 u1 u2 u3 u4
 cases hpa : properT a with
 | false =>
  obtain rfl : ea = 16 := by
   have h := HPAE.out
   rw [rpT_no hpa] at h
   injection h with _ h
   exact h.symm
  have HRV : Hid (R = (Ty.unk, 16)) := hid (by rw [← HR3.out, if_pos (.inl hpa)])
  clear hpa
  have r0 := HB4.out.1
  have r1 := HB4.out.2.1
  have r2 := HB4.out.2.2.1
  have r3 := HB4.out.2.2.2.1
  have r4 := HB4.out.2.2.2.2.1
  have f0 := HB4.out.2.2.2.2.2 0
  have f1 := HB4.out.2.2.2.2.2 1
  have f2 := HB4.out.2.2.2.2.2 2
  have f3 := HB4.out.2.2.2.2.2 3
  have f4 := HB4.out.2.2.2.2.2 4
  have hc := set5_cells r0 r1 r2 r3 r4 (.int .i64 0) (.int .i64 0) (.int .i64 0) (.slice none 0 0) (.slice none 0 0)
  have hx := set5_ext HX4.out (b := w.heap.size + 1 + 1) (by omega) (.int .i64 0) (.int .i64 0) (.int .i64 0) (.slice none 0 0) (.slice none 0 0)
  obtain ⟨W6, hW6⟩ : ∃ W6, ((((w4.setCell ⟨w.heap.size + 1 + 1, 0, none⟩ (.int .i64 0)).setCell ⟨w.heap.size + 1 + 1, 1, none⟩ (.int .i64 0)).setCell ⟨w.heap.size + 1 + 1, 2, none⟩ (.int .i64 0)).setCell ⟨w.heap.size + 1 + 1, 3, none⟩ (.slice none 0 0)).setCell ⟨w.heap.size + 1 + 1, 4, none⟩ (.slice none 0 0) = W6 := ⟨_, rfl⟩
  rw [hW6] at hc hx
  obtain ⟨t0, t1, t2, t3, t4⟩ := hc
  have HX6 := hid hx
  have HW6 := hid hW6
  clear hx hW6
  go_wp2
  rw [HW6.out]
  clear r0 r1 r2 r3 r4
  refine bodyPost_ret (v := .tuple #[.agg #[.int .i64 0, .int .i64 0, .int .i64 0, .slice none 0 0, .slice none 0 0], .int .i64 16]) (by simp [results, Tryz.results28, go_sem, t0, t1, t2, t3, t4]) rfl ?_
  refine ⟨_, by first | (rw [HRV.out]; done) | (rw [HRV.out]; rfl), ?_, HX6.out⟩
  rw [HRV.out]
  exact tyV_leaf _ _ _ 0 0 (by unfold i64b; omega) (by unfold i64b; omega)
 | true =>
  obtain ⟨rfl, hP⟩ : ea = 0 ∧ partsT a = P := by
   have h := HPAE.out
   rw [rpT_yes hpa] at h
   injection h with h1 h2
   exact ⟨h2.symm, h1⟩
  cases hpb : properT b with
  | false =>
   obtain rfl : eb = 16 := by
    have h := HPBE.out
    rw [rpT_no hpb] at h
    injection h with _ h
    exact h.symm
   have HRV : Hid (R = (Ty.unk, 16)) := hid (by rw [← HR3.out, if_pos (.inr hpb)])
   clear hpa hpb hP
   have r0 := HB4.out.1
   have r1 := HB4.out.2.1
   have r2 := HB4.out.2.2.1
   have r3 := HB4.out.2.2.2.1
   have r4 := HB4.out.2.2.2.2.1
   have f0 := HB4.out.2.2.2.2.2 0
   have f1 := HB4.out.2.2.2.2.2 1
   have f2 := HB4.out.2.2.2.2.2 2
   have f3 := HB4.out.2.2.2.2.2 3
   have f4 := HB4.out.2.2.2.2.2 4
   have hc := set5_cells r0 r1 r2 r3 r4 (.int .i64 0) (.int .i64 0) (.int .i64 0) (.slice none 0 0) (.slice none 0 0)
   have hx := set5_ext HX4.out (b := w.heap.size + 1 + 1) (by omega) (.int .i64 0) (.int .i64 0) (.int .i64 0) (.slice none 0 0) (.slice none 0 0)
   obtain ⟨W6, hW6⟩ : ∃ W6, ((((w4.setCell ⟨w.heap.size + 1 + 1, 0, none⟩ (.int .i64 0)).setCell ⟨w.heap.size + 1 + 1, 1, none⟩ (.int .i64 0)).setCell ⟨w.heap.size + 1 + 1, 2, none⟩ (.int .i64 0)).setCell ⟨w.heap.size + 1 + 1, 3, none⟩ (.slice none 0 0)).setCell ⟨w.heap.size + 1 + 1, 4, none⟩ (.slice none 0 0) = W6 := ⟨_, rfl⟩
   rw [hW6] at hc hx
   obtain ⟨t0, t1, t2, t3, t4⟩ := hc
   have HX6 := hid hx
   have HW6 := hid hW6
   clear hx hW6
   go_wp2
   rw [HW6.out]
   clear r0 r1 r2 r3 r4
   refine bodyPost_ret (v := .tuple #[.agg #[.int .i64 0, .int .i64 0, .int .i64 0, .slice none 0 0, .slice none 0 0], .int .i64 16]) (by simp [results, Tryz.results28, go_sem, t0, t1, t2, t3, t4]) rfl ?_
   refine ⟨_, by first | (rw [HRV.out]; done) | (rw [HRV.out]; rfl), ?_, HX6.out⟩
   rw [HRV.out]
   exact tyV_leaf _ _ _ 0 0 (by unfold i64b; omega) (by unfold i64b; omega)
  | true =>
   obtain ⟨rfl, hQ⟩ : eb = 0 ∧ partsT b = Q := by
    have h := HPBE.out
    rw [rpT_yes hpb] at h
    injection h with h1 h2
    exact ⟨h2.symm, h1⟩
   have hla := parts_len HZA.out hpa
   have hlb := parts_len HZB.out hpb
   rw [hP, HPL.out] at hla
   rw [hQ, HQL.out] at hlb
   have hr4 := HR3.out
   rw [if_neg (by rw [hpa, hpb]; simp), ← hla, ← hlb, hP, hQ] at hr4
   have HR4 := hid hr4
   have HPA2 := hid hpa
   have HPB2 := hid hpb
   have HPP := hid hP
   have HQQ := hid hQ
   have HLA := hid hla
   have HLB := hid hlb
   clear hpa hpb hP hQ hla hlb hr4
   by_cases hka : 1024 < pl
   ·have d1 : decide ((pl : Int) > 1024) = true := decide_eq_true (by omega)
    have hpg : (pl : Int) > 1024 := by omega
    have HRV : Hid (R = (Ty.unk, 6)) := hid (by rw [← HR4.out, if_pos (.inl (by omega))])
    clear hka
    have r0 := HB4.out.1
    have r1 := HB4.out.2.1
    have r2 := HB4.out.2.2.1
    have r3 := HB4.out.2.2.2.1
    have r4 := HB4.out.2.2.2.2.1
    have f0 := HB4.out.2.2.2.2.2 0
    have f1 := HB4.out.2.2.2.2.2 1
    have f2 := HB4.out.2.2.2.2.2 2
    have f3 := HB4.out.2.2.2.2.2 3
    have f4 := HB4.out.2.2.2.2.2 4
    have hc := set5_cells r0 r1 r2 r3 r4 (.int .i64 0) (.int .i64 0) (.int .i64 0) (.slice none 0 0) (.slice none 0 0)
    have hx := set5_ext HX4.out (b := w.heap.size + 1 + 1) (by omega) (.int .i64 0) (.int .i64 0) (.int .i64 0) (.slice none 0 0) (.slice none 0 0)
    obtain ⟨W6, hW6⟩ : ∃ W6, ((((w4.setCell ⟨w.heap.size + 1 + 1, 0, none⟩ (.int .i64 0)).setCell ⟨w.heap.size + 1 + 1, 1, none⟩ (.int .i64 0)).setCell ⟨w.heap.size + 1 + 1, 2, none⟩ (.int .i64 0)).setCell ⟨w.heap.size + 1 + 1, 3, none⟩ (.slice none 0 0)).setCell ⟨w.heap.size + 1 + 1, 4, none⟩ (.slice none 0 0) = W6 := ⟨_, rfl⟩
    rw [hW6] at hc hx
    obtain ⟨t0, t1, t2, t3, t4⟩ := hc
    have HX6 := hid hx
    have HW6 := hid hW6
    clear hx hW6
    go_wp2
    rw [HW6.out]
    clear r0 r1 r2 r3 r4
    refine bodyPost_ret (v := .tuple #[.agg #[.int .i64 0, .int .i64 0, .int .i64 0, .slice none 0 0, .slice none 0 0], .int .i64 6]) (by simp [results, Tryz.results28, go_sem, t0, t1, t2, t3, t4]) rfl ?_
    refine ⟨_, by first | (rw [HRV.out]; done) | (rw [HRV.out]; rfl), ?_, HX6.out⟩
    rw [HRV.out]
    exact tyV_leaf _ _ _ 0 0 (by unfold i64b; omega) (by unfold i64b; omega)
   ·have d1 : decide ((pl : Int) > 1024) = false := decide_eq_false (by omega)
    have hpg : ¬ (pl : Int) > 1024 := by omega
    by_cases hkb : 1024 < ql
    ·have d2 : decide ((ql : Int) > 1024) = true := decide_eq_true (by omega)
     have hqg : (ql : Int) > 1024 := by omega
     have HRV : Hid (R = (Ty.unk, 6)) := hid (by rw [← HR4.out, if_pos (.inr (by omega))])
     clear hka hkb
     have r0 := HB4.out.1
     have r1 := HB4.out.2.1
     have r2 := HB4.out.2.2.1
     have r3 := HB4.out.2.2.2.1
     have r4 := HB4.out.2.2.2.2.1
     have f0 := HB4.out.2.2.2.2.2 0
     have f1 := HB4.out.2.2.2.2.2 1
     have f2 := HB4.out.2.2.2.2.2 2
     have f3 := HB4.out.2.2.2.2.2 3
     have f4 := HB4.out.2.2.2.2.2 4
     have hc := set5_cells r0 r1 r2 r3 r4 (.int .i64 0) (.int .i64 0) (.int .i64 0) (.slice none 0 0) (.slice none 0 0)
     have hx := set5_ext HX4.out (b := w.heap.size + 1 + 1) (by omega) (.int .i64 0) (.int .i64 0) (.int .i64 0) (.slice none 0 0) (.slice none 0 0)
     obtain ⟨W6, hW6⟩ : ∃ W6, ((((w4.setCell ⟨w.heap.size + 1 + 1, 0, none⟩ (.int .i64 0)).setCell ⟨w.heap.size + 1 + 1, 1, none⟩ (.int .i64 0)).setCell ⟨w.heap.size + 1 + 1, 2, none⟩ (.int .i64 0)).setCell ⟨w.heap.size + 1 + 1, 3, none⟩ (.slice none 0 0)).setCell ⟨w.heap.size + 1 + 1, 4, none⟩ (.slice none 0 0) = W6 := ⟨_, rfl⟩
     rw [hW6] at hc hx
     obtain ⟨t0, t1, t2, t3, t4⟩ := hc
     have HX6 := hid hx
     have HW6 := hid hW6
     clear hx hW6
     go_wp2
     rw [HW6.out]
     clear r0 r1 r2 r3 r4
     refine bodyPost_ret (v := .tuple #[.agg #[.int .i64 0, .int .i64 0, .int .i64 0, .slice none 0 0, .slice none 0 0], .int .i64 6]) (by simp [results, Tryz.results28, go_sem, t0, t1, t2, t3, t4]) rfl ?_
     refine ⟨_, by first | (rw [HRV.out]; done) | (rw [HRV.out]; rfl), ?_, HX6.out⟩
     rw [HRV.out]
     exact tyV_leaf _ _ _ 0 0 (by unfold i64b; omega) (by unfold i64b; omega)
    ·have d2 : decide ((ql : Int) > 1024) = false := decide_eq_false (by omega)
     have hqg : ¬ (ql : Int) > 1024 := by omega
     have HRV : Hid (arrangeF (P ++ Q) = R) := hid (by rw [← HR4.out, if_neg (by omega)])
     have HOA := hid (parts_ok HZA.out HPA2.out (by have := HLA.out; omega))
     have HOB := hid (parts_ok HZB.out HPB2.out (by have := HLB.out; omega))
     have HALL : Hid (∀ f ∈ P ++ Q, (0 ≤ f.1 ∧ f.1 ≤ 131072) ∧ bnT f.2 = true) := hid (fun f hf => by
      rcases List.mem_append.1 hf with hf | hf
      ·exact HOA.out.all f (by rw [HPP.out]; exact hf)
      ·exact HOB.out.all f (by rw [HQQ.out]; exact hf))
     have hplb : pl ≤ 1024 := by omega
     have hqlb : ql ≤ 1024 := by omega
     have HLS := hid (And.intro hplb hqlb)
     clear hka hkb hplb hqlb
     go_wp2_with (first
      | (at_builtin; refine wpList_appS rfl (.tmp 49) (.tmp 50) 23 rfl w4.heap.size 48 i0 _ 6 80 Tryz.underlying23 HI.out HI0.out HI1.out HI2.out rfl (fdR (tyR d)) (fdR_size _) _ [] rfl (OwnS.nil (T := fun b => (b < w.heap.size ∨ W0.heap.size ≤ b) ∧ b < w4.heap.size)) A7 pl c7 P (fun b => (b < w.heap.size ∨ W0.heap.size ≤ b) ∧ b < w4.heap.size) rfl HS7'.out (fun b hb _ => ⟨hb, own_nil⟩) (by have := HLS.out; simp; omega) (by have := HLS.out; simp; omega) (Nat.le_refl _) ?_; intro A3 c3 w5 hown3 hg3 hloc; have HO3 : Hid (OwnS (fdR (tyR d)) w5 w4.heap.size 48 (fun b => (b < w.heap.size ∨ W0.heap.size ≤ b) ∧ b < w4.heap.size) (.slice A3 pl c3) P) := hid (by simpa using hown3); have HX5 := hid ((Ext.refl w4).grown hg3 (fun k hk => (own_nil hk.symm).elim)); clear hown3 hg3 hloc; simp only [List.length_nil, Nat.zero_add])
      | (at_builtin; refine wpList_appS rfl (.tmp 52) (.tmp 53) 23 rfl w4.heap.size 48 i0 _ 6 80 Tryz.underlying23 HI.out HI0.out HI1.out HI2.out rfl (fdR (tyR d)) (fdR_size _) (.slice A3 pl c3) P rfl HO3.out A8 ql c8 Q (fun b => (b < w.heap.size ∨ W0.heap.size ≤ b) ∧ b < w4.heap.size) rfl (HS8.out.ext HX5.out) (fun b hb _ => ⟨hb, fun e => by have h1 := (HO3.out.block b e.symm).1; have h2 := hb.2; omega⟩) (by have := HLS.out; have := HPL.out; omega) (by have := HLS.out; have := HPL.out; omega) (by exact HX5.out.size) ?_; intro A9 c9 w9 hown9 hg9 hloc; rw [HPL.out] at hown9; have HO9 := hid hown9; have HX9 := hid (HX5.out.grown hg9 (fun k hk => (HO3.out.block _ hk).1)); clear hown9 hg9 hloc; rw [HPL.out])
      | fail)
     have HSQ : Hid (Sl (fdR (tyR d)) w9 (fun b => b < w.heap.size ∨ W0.heap.size ≤ b) (.slice A9 (pl + ql) c9) (P ++ Q)) := hid (HO9.out.slT (fun b hb => hb.1) (fun b hb => .inr (by have h1 := (HO9.out.block b hb).1; have h2 := HW4.out; omega)))
     have HARC := hid (rarrange_any d (fun b => b < w.heap.size ∨ W0.heap.size ≤ b) w9 A9 (pl + ql) c9 (P ++ Q) HSQ.out (by have := HLS.out; omega) HALL.out)
     rw [HRV.out] at HARC
     obtain ⟨rt, re⟩ := R
     unfold TyErr at HARC
     simp only at HARC
     refine (HARC.out).mono ?_
     rintro e w10 ⟨_, rfl, ⟨A5, n5, c5, B5, m5, e5, rfl, hv5⟩, hx10⟩
     have HX10 := hid (HX4.out.trans (HX9.out.trans hx10))
     have HB10 := hid (HB4.out.ext (HX9.out.trans hx10))
     have HV10 := hid (show TyV (d + 3) w10 (fun b => (b < w.heap.size ∨ W0.heap.size ≤ b) ∨ w9.heap.size ≤ b) (.agg #[.int .i64 rt.kind, .int .i64 rt.size, .int .i64 rt.count, .slice A5 n5 c5, .slice B5 m5 e5]) rt from ⟨A5, n5, c5, B5, m5, e5, rfl, hv5⟩)
     have HW9 := hid (show W0.heap.size ≤ w9.heap.size from Nat.le_trans HW4.out HX9.out.size)
     clear hx10 hv5
     have r0 := HB10.out.1
     have r1 := HB10.out.2.1
     have r2 := HB10.out.2.2.1
     have r3 := HB10.out.2.2.2.1
     have r4 := HB10.out.2.2.2.2.1
     have f0 := HB10.out.2.2.2.2.2 0
     have f1 := HB10.out.2.2.2.2.2 1
     have f2 := HB10.out.2.2.2.2.2 2
     have f3 := HB10.out.2.2.2.2.2 3
     have f4 := HB10.out.2.2.2.2.2 4
     have hc := set5_cells r0 r1 r2 r3 r4 (.int .i64 rt.kind) (.int .i64 rt.size) (.int .i64 rt.count) (.slice A5 n5 c5) (.slice B5 m5 e5)
     have hx := set5_ext HX10.out (b := w.heap.size + 1 + 1) (by omega) (.int .i64 rt.kind) (.int .i64 rt.size) (.int .i64 rt.count) (.slice A5 n5 c5) (.slice B5 m5 e5)
     obtain ⟨W6, hW6⟩ : ∃ W6, ((((w10.setCell ⟨w.heap.size + 1 + 1, 0, none⟩ (.int .i64 rt.kind)).setCell ⟨w.heap.size + 1 + 1, 1, none⟩ (.int .i64 rt.size)).setCell ⟨w.heap.size + 1 + 1, 2, none⟩ (.int .i64 rt.count)).setCell ⟨w.heap.size + 1 + 1, 3, none⟩ (.slice A5 n5 c5)).setCell ⟨w.heap.size + 1 + 1, 4, none⟩ (.slice B5 m5 e5) = W6 := ⟨_, rfl⟩
     rw [hW6] at hc hx
     obtain ⟨t0, t1, t2, t3, t4⟩ := hc
     have HX6 := hid hx
     have HW6 := hid hW6
     clear hx hW6
     go_wp2
     rw [HW6.out]
     clear r0 r1 r2 r3 r4
     refine bodyPost_ret (v := .tuple #[.agg #[.int .i64 rt.kind, .int .i64 rt.size, .int .i64 rt.count, .slice A5 n5 c5, .slice B5 m5 e5], .int .i64 re]) (by simp [results, Tryz.results28, go_sem, t0, t1, t2, t3, t4]) rfl ?_
     refine ⟨_, rfl, ?_, HX6.out⟩
     have h3 := HS0.out
     have h4 := HW9.out
     refine TyV.mono (fun b hb _ => ?_) (TyV.keep (fun b hb _ => ?_) HV10.out)
     ·rcases hb with (hb | hb) | hb
      ·exact .inl hb
      ·exact .inr (by omega)
      ·exact .inr (by omega)
     ·rw [← HW6.out]
      exact set5_heap _ _ _ _ _ _ _ (by rcases hb with (hb | hb) | hb <;> omega)
end Go.Proofs.YtacmjhcfjhpkeaaGreatDoor
