/- decompilerref34.insert, decompilerref31.Array. -/
import Derived.Test.YtacmjhcfjhpkeaaGreatDoorRdfm
import Derived.Test.YtacmjhcfjhpkeaaGreatDoorRfEm
import Derived.Test.YtacmjhcfjhpkeaaGreatDoorPlbm
import Derived.Test.YtacmjhcfjhpkeaaGreatDoorStrCm
import Derived.Test.YtacmjhcfjhpkeaaGreatDoorPlam
namespace Go.Proofs.YtacmjhcfjhpkeaaGreatDoor
open Go.RowKit Go.Deco
set_option linter.unusedSimpArgs false
set_option linter.unusedVariables false

def InsIs (d : Nat) (S0 : Nat → Prop) (w : World) (L : List (Int × Ty)) (e : Ending) (w' : World) : Prop := ∃ A c, e = .returned (.slice A L.length c) ∧ Sl (fdR (tyR d)) w' (fun b => S0 b ∨ w.heap.size ≤ b) (.slice A L.length c) L ∧ Ext w w'
set_option maxRecDepth 100000 in
set_option maxHeartbeats 8000000 in
theorem rins_any (d : Nat) (S0 : Nat → Prop) (w : World) (A : Option Addr) (n c : Nat) (l : List (Int × Ty)) (hl : Sl (fdR (tyR (d + 1))) w S0 (.slice A n c) l) (hn : n ≤ 100000) (x : Int × Ty) (v : Value) (hv : FdV d w S0 v x) :
  Calls Tryz.prog 55 #[.slice A n c, v] w (InsIs (d + 1) S0 w (insR ltF x l)) := by
 have hln := hl.len
 obtain ⟨hnc, hcm⟩ := hl.cap
 obtain ⟨L, hL⟩ : ∃ L, insR ltF x l = L := ⟨_, rfl⟩
 rw [hL]
 have HL := hid hL
 obtain ⟨T, hT⟩ : ∃ T : Nat → Prop, (fun b => S0 b ∧ b < w.heap.size) = T := ⟨_, rfl⟩
 have hv2 : FdV d w T v x := by rw [← hT]; exact hv.mono fun b hb hi => ⟨hb, hi.lt⟩
 have hl2 : Sl (fdR (tyR (d + 1))) w T (.slice A n c) l := by rw [← hT]; exact hl.mono fun b hb hi => ⟨hb, hi.lt⟩
 have HTS : Hid (∀ b, T b → S0 b) := hid (fun b hb => by rw [← hT] at hb; exact hb.1)
 have htl : ∀ b, T b → b < w.heap.size := fun b hb => by rw [← hT] at hb; exact hb.2
 obtain ⟨PA, pn, pc, PB, pm, pe, rfl, hi1, hv3⟩ := hv2
 obtain ⟨W0, hW0⟩ : ∃ W0, w.alloc (.cells #[.int .i64 x.1, .int .i64 x.2.kind, .int .i64 x.2.size, .int .i64 x.2.count, .slice PA pn pc, .slice PB pm pe] 48) = W0 := ⟨_, rfl⟩
 have hE0 : Ext w W0 := by rw [← hW0]; exact (Ext.refl w).alloc _
 have HTL : Hid (∀ b, T b → b < W0.heap.size) := hid (fun b hb => by have h1 := htl b hb; have h2 := hE0.size; omega)
 have HP : Hid (W0.cell? ⟨w.heap.size, 0, none⟩ = some (.int .i64 x.1) ∧ W0.cell? ⟨w.heap.size, 1, none⟩ = some (.int .i64 x.2.kind) ∧ W0.cell? ⟨w.heap.size, 2, none⟩ = some (.int .i64 x.2.size) ∧ W0.cell? ⟨w.heap.size, 3, none⟩ = some (.int .i64 x.2.count) ∧ W0.cell? ⟨w.heap.size, 4, none⟩ = some (.slice PA pn pc) ∧ W0.cell? ⟨w.heap.size, 5, none⟩ = some (.slice PB pm pe)) := hid (by
  rw [← hW0]
  exact ⟨by simp [go_sem], by simp [go_sem], by simp [go_sem], by simp [go_sem], by simp [go_sem], by simp [go_sem]⟩)
 have HFR : Hid (∀ (W : World) (u : Value) (hW : Ext W0 W) {l' : List (Int × Ty)} (ho : OwnS (fdR (tyR (d + 1))) W W0.heap.size 48 T u l'), (fdR (tyR (d + 1))).rel W (fun b => T b ∧ some b ≠ u.ownBlock) [.int .i64 x.1, .int .i64 x.2.kind, .int .i64 x.2.size, .int .i64 x.2.count, .slice PA pn pc, .slice PB pm pe] x) := hid (by
  intro W u hW l' ho
  refine fd_rel.2 ⟨PA, pn, pc, PB, pm, pe, rfl, hi1, ?_⟩
  exact TyV.mono (fun b hb _ => ⟨hb, fun e => by have h1 := (ho.block b e.symm).1; have h2 := HTL.out b hb; omega⟩) (hv3.ext (hE0.trans hW)))
 obtain ⟨i0, hi, hz0, hz1, hz2⟩ := info_parts info_fd
 have HI := hid hi
 have HZ0 := hid hz0
 have HZ1 := hid hz1
 have HZ2 := hid hz2
 have HS := hid hl2
 have HLN := hid hln
 have HE0 := hid hE0
 clear hi hz0 hz1 hz2 hl2 hl hln hE0 hT hL hv hv3 hi1 htl
 go_enter Tryz.func55, Tryz.ntmps55
 go_wp2
 clear hW0
 go_loopw [5] (fun i wr => ∃ k : Nat, k ≤ n ∧ i = .int .i64 k ∧ Hid (Ext W0 wr) ∧ Hid (∀ j, j < k → ∀ y, l[j]? = some y → ltF x y = false)) (fun i _ => n - (intOf i).toNat)
 case atStart => exact ⟨0, by omega, rfl, hid (Ext.refl _), hid (fun j hj _ _ => by omega)⟩
 case round =>
  obtain ⟨k, hk, rfl, HX, HB⟩ := hrel
  have HKL := hid (show (l.take k).length = k by rw [List.length_take]; have := HLN.out; omega)
  by_cases h1 : k < n
  ·obtain ⟨y, hy⟩ : ∃ y, l[k]? = some y := ⟨_, List.getElem?_eq_getElem (by have := HLN.out; omega)⟩
   obtain ⟨d', b, off, A1, m1, c1, B1, m2, e1, hd, rfl, -, -, c0, -⟩ := (HS.out.ext (HE0.out.trans HX.out)).fd_at hy
   have p0 := HX.out.cell HP.out.1
   have hkn : (k : Int) < (n : Int) := by omega
   have hdk : decide ((k : Int) < (n : Int)) = true := decide_eq_true hkn
   have HYY := hid hy
   clear hd hy
   by_cases h2 : y.1 ≤ x.1
   ·have g2 : decide (y.1 ≤ x.1) = true := decide_eq_true h2
    have HLT : Hid (ltF x y = false) := hid (by unfold ltF; exact decide_eq_false (by omega))
    go_wp2_with fail
    refine wp_region_held_drew (S := (fun w' => w'.cell? ⟨w.heap.size, 0, none⟩ = some (.int .i64 x.1) ∧ w'.cell? ⟨b, off + k * 6, none⟩ = some (.int .i64 y.1))) (by kernel_rfl) ⟨p0, c0⟩ (fun hSg36q0 => ?_)
    refine rgT6 0 1 2 3 4 5 ?_
    refine rgT6 6 7 8 9 10 11 ?_
    refine rgT2 12 13 ?_
    refine wpAnyH_done (by kernel_rfl) ?_ _
    clear p0 c0 h2 hdk
    go_wp2
    first
     | go_roundw
     | refine ⟨?rel, ?measure⟩
    case rel =>
     refine ⟨k + 1, by omega, by go_num, hid HX.out.drew, hid (fun j hj z hz => ?_)⟩
     rcases Nat.lt_or_ge j k with h | h
     ·exact HB.out j h z hz
     ·obtain rfl : j = k := by omega
      have := HYY.out.symm.trans hz
      injection this with this
      rw [← this]; exact HLT.out
    case measure => simp [intOf]; omega
   ·have g2 : decide (y.1 ≤ x.1) = false := decide_eq_false h2
    have HNEW : Hid (L = l.take k ++ x :: l.drop k) := hid (by
     rw [← HL.out]
     exact insR_at HB.out (by have := HLN.out; omega) fun z hz => by
      have := HYY.out.symm.trans hz
      injection this with this
      rw [← this]
      exact decide_eq_true (by omega))
    go_wp2_with fail
    refine wp_region_held_drew (S := (fun w' => w'.cell? ⟨w.heap.size, 0, none⟩ = some (.int .i64 x.1) ∧ w'.cell? ⟨b, off + k * 6, none⟩ = some (.int .i64 y.1))) (by kernel_rfl) ⟨p0, c0⟩ (fun hSg37q0 => ?_)
    refine rgT6 0 1 2 3 4 5 ?_
    refine rgT6 6 7 8 9 10 11 ?_
    refine rgT2 12 13 ?_
    refine wpAnyH_done (by kernel_rfl) ?_ _
    obtain ⟨V, hV⟩ : ∃ V, wr.drew = V := ⟨_, rfl⟩
    rw [hV]
    have HX := hid (show Ext W0 V by rw [← hV]; exact HX.out.drew)
    clear p0 c0 h2 hdk hV HB
    go_wp2_with (first
     | (refine wpList_to rfl 23 48 (.tmp 24) (.tmp 25) rfl Tryz.underlying23 i0 HI.out (fdR (tyR (d + 1))) (HZ1.out.trans (fdR_size _).symm) rfl (HS.out.ext (HE0.out.trans HX.out)) k rfl hk ?_; intro A2 hA2; have HA2 := hid hA2; clear hA2)
     | (at_builtin; refine wpList_appS rfl (.tmp 23) (.tmp 26) 23 rfl W0.heap.size 48 i0 _ 6 80 Tryz.underlying23 HI.out HZ0.out HZ1.out HZ2.out rfl (fdR (tyR (d + 1))) (fdR_size _) _ [] rfl (OwnS.nil (T := T)) A2 k c (l.take k) T rfl HA2.out (fun b hb _ => ⟨hb, own_nil⟩) (by simp; omega) (by simp; omega) (by exact HX.out.size) ?_; intro A3 c3 w3 hown3 hg3 hloc; have HO3 : Hid (OwnS (fdR (tyR (d + 1))) w3 W0.heap.size 48 T (.slice A3 k c3) (l.take k)) := hid (by simpa using hown3); clear hown3; have HX3 := hid (HX.out.grown hg3 (fun k hk => (own_nil hk.symm).elim)); clear hg3 hloc; have p0 := HX3.out.cell HP.out.1; have p1 := HX3.out.cell HP.out.2.1; have p2 := HX3.out.cell HP.out.2.2.1; have p3 := HX3.out.cell HP.out.2.2.2.1; have p4 := HX3.out.cell HP.out.2.2.2.2.1; have p5 := HX3.out.cell HP.out.2.2.2.2.2; simp only [List.length_nil, Nat.zero_add])
     | (at_builtin; refine wpList_app1l rfl (.tmp 28) (.tmp 30) 23 rfl W0.heap.size 48 i0 _ 6 80 Tryz.underlying23 HI.out HZ0.out HZ1.out HZ2.out rfl (fdR (tyR (d + 1))) (fdR_size _) (.slice A3 k c3) (l.take k) rfl HO3.out w3.heap.size rfl x rfl (HFR.out _ _ HX3.out HO3.out) (by have := HKL.out; omega) (by have := HKL.out; omega) (by exact HX3.out.size) ?_; intro A4 c4 w4 hown4 hg4 hloc; rw [HKL.out] at hown4; have hx4 := (HX3.out.alloc _).grown hg4 (fun k hk => (HO3.out.block _ hk).1); have HO4 := hid hown4; have HX4 := hid hx4; clear hown4 hg4 hx4 hloc p0 p1 p2 p3 p4 p5; rw [HKL.out])
     | (refine wpList_from rfl 23 48 (.tmp 33) (.tmp 34) rfl Tryz.underlying23 i0 HI.out (fdR (tyR (d + 1))) (HZ1.out.trans (fdR_size _).symm) rfl (HS.out.ext (HE0.out.trans HX4.out)) k rfl hk ?_; intro A5 hA5; have HA5 := hid hA5; clear hA5)
     | (at_builtin; refine wpList_appS rfl (.tmp 32) (.tmp 35) 23 rfl W0.heap.size 48 i0 _ 6 80 Tryz.underlying23 HI.out HZ0.out HZ1.out HZ2.out rfl (fdR (tyR (d + 1))) (fdR_size _) (.slice A4 (k + 1) c4) (l.take k ++ [x]) rfl HO4.out A5 (n - k) (c - k) (l.drop k) T rfl HA5.out (fun b hb _ => ⟨hb, fun e => by have h1 := (HO4.out.block b e.symm).1; have h2 := HTL.out b hb; omega⟩) (by have := HKL.out; simp; omega) (by have := HKL.out; simp; omega) (by exact HX4.out.size) ?_; intro A6 c6 w6 hown6 hg6 hloc; have HX6 := hid (HX4.out.grown hg6 (fun k hk => (HO4.out.block _ hk).1)); have HO6 := hid hown6; clear hown6 hg6 hloc; rw [List.length_append, HKL.out])
     | fail)
    go_ret
    have hlen : L.length = k + [x].length + (n - k) := by
     rw [HNEW.out]
     have := HKL.out
     have := HLN.out
     simp
     omega
    refine ⟨A6, c6, by rw [hlen]; rfl, ?_, HE0.out.trans HX6.out⟩
    have ho := HO6.out
    rw [hlen, HNEW.out]
    have e1 : (l.take k ++ [x]).length + (n - k) = k + [x].length + (n - k) := by rw [List.length_append, HKL.out]
    rw [e1] at ho
    rw [show l.take k ++ x :: l.drop k = (l.take k ++ [x]) ++ l.drop k by simp]
    exact ho.slT (fun b hb => .inl (HTS.out b hb)) (fun b hb => .inr (by have h1 := (ho.block b hb).1; have h2 := HE0.out.size; omega))
  ·have hkn : ¬ (k : Int) < (n : Int) := by omega
   have hkn' : ¬ k < n := h1
   have hdk : decide ((k : Int) < (n : Int)) = false := decide_eq_false hkn
   have HNEW : Hid (L = l.take k ++ x :: l.drop k) := hid (by
    rw [← HL.out]
    exact insR_at HB.out (by have := HLN.out; omega) fun z hz => by
     have h1 := (List.getElem?_eq_some_iff.1 hz).1
     have := HLN.out
     omega)
   go_wp2_with fail
   refine wp_region_held_drew (S := (fun w' => True)) (by kernel_rfl) trivial (fun hSg38q0 => ?_)
   refine rgT4 0 1 2 3 ?_
   refine rgT 4 ?_
   refine rgU4 5 6 7 8 ?_
   refine rgU4 9 10 11 12 ?_
   refine rgT 13 ?_
   refine wpAnyH_done (by kernel_rfl) ?_ _
   obtain ⟨V, hV⟩ : ∃ V, wr.drew = V := ⟨_, rfl⟩
   rw [hV]
   have HX := hid (show Ext W0 V by rw [← hV]; exact HX.out.drew)
   clear hdk hV HB
   go_wp2_with (first
    | (refine wpList_to rfl 23 48 (.tmp 24) (.tmp 25) rfl Tryz.underlying23 i0 HI.out (fdR (tyR (d + 1))) (HZ1.out.trans (fdR_size _).symm) rfl (HS.out.ext (HE0.out.trans HX.out)) k rfl hk ?_; intro A2 hA2; have HA2 := hid hA2; clear hA2)
    | (at_builtin; refine wpList_appS rfl (.tmp 23) (.tmp 26) 23 rfl W0.heap.size 48 i0 _ 6 80 Tryz.underlying23 HI.out HZ0.out HZ1.out HZ2.out rfl (fdR (tyR (d + 1))) (fdR_size _) _ [] rfl (OwnS.nil (T := T)) A2 k c (l.take k) T rfl HA2.out (fun b hb _ => ⟨hb, own_nil⟩) (by simp; omega) (by simp; omega) (by exact HX.out.size) ?_; intro A3 c3 w3 hown3 hg3 hloc; have HO3 : Hid (OwnS (fdR (tyR (d + 1))) w3 W0.heap.size 48 T (.slice A3 k c3) (l.take k)) := hid (by simpa using hown3); clear hown3; have HX3 := hid (HX.out.grown hg3 (fun k hk => (own_nil hk.symm).elim)); clear hg3 hloc; have p0 := HX3.out.cell HP.out.1; have p1 := HX3.out.cell HP.out.2.1; have p2 := HX3.out.cell HP.out.2.2.1; have p3 := HX3.out.cell HP.out.2.2.2.1; have p4 := HX3.out.cell HP.out.2.2.2.2.1; have p5 := HX3.out.cell HP.out.2.2.2.2.2; simp only [List.length_nil, Nat.zero_add])
    | (at_builtin; refine wpList_app1l rfl (.tmp 28) (.tmp 30) 23 rfl W0.heap.size 48 i0 _ 6 80 Tryz.underlying23 HI.out HZ0.out HZ1.out HZ2.out rfl (fdR (tyR (d + 1))) (fdR_size _) (.slice A3 k c3) (l.take k) rfl HO3.out w3.heap.size rfl x rfl (HFR.out _ _ HX3.out HO3.out) (by have := HKL.out; omega) (by have := HKL.out; omega) (by exact HX3.out.size) ?_; intro A4 c4 w4 hown4 hg4 hloc; rw [HKL.out] at hown4; have hx4 := (HX3.out.alloc _).grown hg4 (fun k hk => (HO3.out.block _ hk).1); have HO4 := hid hown4; have HX4 := hid hx4; clear hown4 hg4 hx4 hloc p0 p1 p2 p3 p4 p5; rw [HKL.out])
    | (refine wpList_from rfl 23 48 (.tmp 33) (.tmp 34) rfl Tryz.underlying23 i0 HI.out (fdR (tyR (d + 1))) (HZ1.out.trans (fdR_size _).symm) rfl (HS.out.ext (HE0.out.trans HX4.out)) k rfl hk ?_; intro A5 hA5; have HA5 := hid hA5; clear hA5)
    | (at_builtin; refine wpList_appS rfl (.tmp 32) (.tmp 35) 23 rfl W0.heap.size 48 i0 _ 6 80 Tryz.underlying23 HI.out HZ0.out HZ1.out HZ2.out rfl (fdR (tyR (d + 1))) (fdR_size _) (.slice A4 (k + 1) c4) (l.take k ++ [x]) rfl HO4.out A5 (n - k) (c - k) (l.drop k) T rfl HA5.out (fun b hb _ => ⟨hb, fun e => by have h1 := (HO4.out.block b e.symm).1; have h2 := HTL.out b hb; omega⟩) (by have := HKL.out; simp; omega) (by have := HKL.out; simp; omega) (by exact HX4.out.size) ?_; intro A6 c6 w6 hown6 hg6 hloc; have HX6 := hid (HX4.out.grown hg6 (fun k hk => (HO4.out.block _ hk).1)); have HO6 := hid hown6; clear hown6 hg6 hloc; rw [List.length_append, HKL.out])
    | fail)
   go_ret
   have hlen : L.length = k + [x].length + (n - k) := by
    rw [HNEW.out]
    have := HKL.out
    have := HLN.out
    simp
    omega
   refine ⟨A6, c6, by rw [hlen]; rfl, ?_, HE0.out.trans HX6.out⟩
   have ho := HO6.out
   rw [hlen, HNEW.out]
   have e1 : (l.take k ++ [x]).length + (n - k) = k + [x].length + (n - k) := by rw [List.length_append, HKL.out]
   rw [e1] at ho
   rw [show l.take k ++ x :: l.drop k = (l.take k ++ [x]) ++ l.drop k by simp]
   exact ho.slT (fun b hb => .inl (HTS.out b hb)) (fun b hb => .inr (by have h1 := (ho.block b hb).1; have h2 := HE0.out.size; omega))
/-- A type in the places S0 or new. -/
def TyAt (d : Nat) (S0 : Nat → Prop) (w : World) (t : Ty) (e : Ending) (w' : World) : Prop := ∃ v, e = .returned v ∧ TyV d w' (fun b => S0 b ∨ w.heap.size ≤ b) v t ∧ Ext w w'
set_option maxRecDepth 100000 in
set_option maxHeartbeats 4000000 in
theorem rarr_any (d : Nat) (S0 : Nat → Prop) (w : World) (t : Ty) (v : Value) (hv : TyV d w S0 v t) (m : Int) (hm : i64b m) : Calls Tryz.prog 90 #[v, .int .i64 m] w (TyAt (d + 1) S0 w (Ty.arr t m)) := by
 have hv2 := TyV.mono (S' := fun b => S0 b ∧ b < w.heap.size) (fun b hb hi => ⟨hb, hi.lt⟩) hv
 obtain ⟨A, na, ca, B, nb, cb, rfl, hv3⟩ := hv2
 have hv2 : TyV d w (fun b => S0 b ∧ b < w.heap.size) (.agg #[.int .i64 t.kind, .int .i64 t.size, .int .i64 t.count, .slice A na ca, .slice B nb cb]) t := ⟨A, na, ca, B, nb, cb, rfl, hv3⟩
 have HV := hid hv2
 clear hv hv2 hv3
 obtain ⟨W0, hW0⟩ : ∃ W0, (w.alloc (.cells #[.int .i64 t.kind, .int .i64 t.size, .int .i64 t.count, .slice A na ca, .slice B nb cb] 25)).alloc (.cells #[.int .i64 0, .int .i64 0, .int .i64 0, .slice none 0 0, .slice none 0 0] 25) = W0 := ⟨_, rfl⟩
 have hE0 : Ext w W0 := by rw [← hW0]; exact ((Ext.refl w).alloc _).alloc _
 have o0 : W0.cell? ⟨w.heap.size, 0, none⟩ = some (.int .i64 t.kind) := by rw [← hW0]; simp [go_sem]
 have o1 : W0.cell? ⟨w.heap.size, 1, none⟩ = some (.int .i64 t.size) := by rw [← hW0]; simp [go_sem]
 have o2 : W0.cell? ⟨w.heap.size, 2, none⟩ = some (.int .i64 t.count) := by rw [← hW0]; simp [go_sem]
 have o3 : W0.cell? ⟨w.heap.size, 3, none⟩ = some (.slice A na ca) := by rw [← hW0]; simp [go_sem]
 have o4 : W0.cell? ⟨w.heap.size, 4, none⟩ = some (.slice B nb cb) := by rw [← hW0]; simp [go_sem]
 have hR0 : Box5 W0 (w.heap.size + 1) (.int .i64 0) (.int .i64 0) (.int .i64 0) (.slice none 0 0) (.slice none 0 0) := by
  rw [← hW0]
  have := Box5.new (w.alloc (.cells #[.int .i64 t.kind, .int .i64 t.size, .int .i64 t.count, .slice A na ca, .slice B nb cb] 25)) (.int .i64 0) (.int .i64 0) (.int .i64 0) (.slice none 0 0) (.slice none 0 0) 25
  rwa [show (w.alloc (.cells #[.int .i64 t.kind, .int .i64 t.size, .int .i64 t.count, .slice A na ca, .slice B nb cb] 25)).heap.size = w.heap.size + 1 by simp] at this
 have HM := hid hm
 obtain ⟨W2, hW2⟩ : ∃ W2, W0.alloc (.cells #[.int .i64 t.kind, .int .i64 t.size, .int .i64 t.count, .slice A na ca, .slice B nb cb] 25) = W2 := ⟨_, rfl⟩
 have hE2 : Ext W0 W2 := by rw [← hW2]; exact (Ext.refl _).alloc _
 have hs0 : W0.heap.size = w.heap.size + 2 := by rw [← hW0]; simp
 have hlit : Sl (tyR (d + 1)) W2 (fun b => (S0 b ∧ b < w.heap.size) ∨ w.heap.size + 2 ≤ b) (.slice (some ⟨W0.heap.size, 0, none⟩) 1 1) [t] := by
  have hrel : (tyR (d + 1)).rel W0 (fun b => S0 b ∧ b < w.heap.size) [.int .i64 t.kind, .int .i64 t.size, .int .i64 t.count, .slice A na ca, .slice B nb cb] t := ty_rel.2 ⟨_, HV.out.ext hE0, rfl⟩
  rw [← hW2]
  have ho : OwnS (tyR (d + 1)) (W0.alloc (.cells #[.int .i64 t.kind, .int .i64 t.size, .int .i64 t.count, .slice A na ca, .slice B nb cb] 25)) (w.heap.size + 2) 25 (fun b => S0 b ∧ b < w.heap.size) (.slice (some ⟨W0.heap.size, 0, none⟩) 1 1) [t] := by
   have hl := World.ownsRow_lit (size := (tyR (d + 1)).size) (e := 25) W0 #[.int .i64 t.kind, .int .i64 t.size, .int .i64 t.count, .slice A na ca, .slice B nb cb] 1 (base := w.heap.size + 2) (by omega) (by simp [maxLen]) (by rw [tyR_size]; rfl)
   exact ⟨_, by simpa using hl, Chunks.single ((tyR (d + 1)).mono (fun b hb hi => ⟨hb, own_ne (by have := hb.2; omega)⟩) ((tyR (d + 1)).ext ((Ext.refl W0).alloc _) hrel))⟩
  exact ho.slT (fun b hb => .inl hb) (fun b hb => .inr (ho.block b hb).1)
 have HLIT := hid hlit
 have HX2 := hid (hE0.trans hE2)
 obtain ⟨r0, r1, r2, r3, r4, rf⟩ := hR0.ext hE2
 have u0 := rf 0
 have u1 := rf 1
 have u2 := rf 2
 have u3 := rf 3
 have u4 := rf 4
 clear hE2 hlit rf hm hR0 hE0
 have hc := set5_cells r0 r1 r2 r3 r4 (.int .i64 4) (.int .i64 0) (.int .i64 m) (.slice (some ⟨W0.heap.size, 0, none⟩) 1 1) (.slice none 0 0)
 have hh := fun {k : Nat} (hk : k ≠ w.heap.size + 1) => set5_heap W2 (w.heap.size + 1) (.int .i64 4) (.int .i64 0) (.int .i64 m) (.slice (some ⟨W0.heap.size, 0, none⟩) 1 1) (.slice none 0 0) hk
 have hx := set5_ext HX2.out (b := w.heap.size + 1) (by omega) (.int .i64 4) (.int .i64 0) (.int .i64 m) (.slice (some ⟨W0.heap.size, 0, none⟩) 1 1) (.slice none 0 0)
 obtain ⟨W3, hW3⟩ : ∃ W3, ((((W2.setCell ⟨w.heap.size + 1, 0, none⟩ (.int .i64 4)).setCell ⟨w.heap.size + 1, 1, none⟩ (.int .i64 0)).setCell ⟨w.heap.size + 1, 2, none⟩ (.int .i64 m)).setCell ⟨w.heap.size + 1, 3, none⟩ (.slice (some ⟨W0.heap.size, 0, none⟩) 1 1)).setCell ⟨w.heap.size + 1, 4, none⟩ (.slice none 0 0) = W3 := ⟨_, rfl⟩
 rw [hW3] at hc hx
 have HH : Hid (∀ k, k ≠ w.heap.size + 1 → W3.heap[k]? = W2.heap[k]?) := hid (fun k hk => by rw [← hW3]; exact hh hk)
 obtain ⟨t0, t1, t2, t3, t4⟩ := hc
 have HX3 := hid hx
 have HW3 := hid hW3
 have HS0 := hid hs0
 clear hx hW3 hh hs0
 go_enter Tryz.func90, Tryz.ntmps90
 go_wp2
 rw [HW3.out]
 clear hW2 hW0 r0 r1 r2 r3 r4
 refine bodyPost_ret (v := .agg #[.int .i64 4, .int .i64 0, .int .i64 m, .slice (some ⟨W0.heap.size, 0, none⟩) 1 1, .slice none 0 0]) (by simp [results, Tryz.results90, go_sem, t0, t1, t2, t3, t4]) rfl ?_
 refine ⟨_, rfl, ⟨some ⟨W0.heap.size, 0, none⟩, 1, 1, none, 0, 0, rfl, ?_, Sl.nil, by show i64b 4; unfold i64b; omega, by show i64b 0; unfold i64b; omega, HM.out⟩, HX3.out⟩
 exact (HLIT.out.keep (fun b hb _ => HH.out b (by rcases hb with hb | hb <;> omega))).mono fun b hb _ => by
  rcases hb with hb | hb
  ·exact .inl hb.1
  ·exact .inr (by omega)
end Go.Proofs.YtacmjhcfjhpkeaaGreatDoor
