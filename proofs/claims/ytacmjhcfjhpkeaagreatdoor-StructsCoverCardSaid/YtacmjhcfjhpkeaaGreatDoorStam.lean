/- structs: valid, part, end, integer; types: Int, Uint, Array. decompilerref31.Int, Uint; decompilerref34.IsValid: turned from StrA. The document's answer about types: isDeep. -/
import Derived.Test.YtacmjhcfjhpkeaaGreatDoorTyGm
import Derived.Test.YtacmjhcfjhpkeaaGreatDoorPlbm
import Derived.Test.YtacmjhcfjhpkeaaGreatDoorSplitm
import Derived.Test.YtacmjhcfjhpkeaaGreatDoorTydm
namespace Go.Proofs.YtacmjhcfjhpkeaaGreatDoor
open Go.RowKit Go.Deco
set_option linter.unusedSimpArgs false
set_option linter.unusedVariables false

def ValIs (w : World) (v : Value) (e : Ending) (w' : World) : Prop := e = .returned v ∧ Ext w w'
set_option maxRecDepth 100000 in
set_option maxHeartbeats 1000000 in
theorem tint_any (w : World) (n : Int) : Calls Tryz.prog 77 #[.int .i64 n] w (ValIs w (.agg #[.int .i64 1, .int .i64 n, .int .i64 0, .slice none 0 0, .slice none 0 0])) := by
 go_enter Tryz.func77, Tryz.ntmps77
 go_wp2
 refine bodyPost_ret (v := .agg #[.int .i64 1, .int .i64 n, .int .i64 0, .slice none 0 0, .slice none 0 0]) (by simp [results, Tryz.results77, go_sem]) rfl ?_
 exact ⟨rfl, by repeat (first | exact Ext.refl w | refine Ext.setCell ?_ (Nat.le_refl _) _ | refine Ext.alloc ?_ _)⟩
set_option maxRecDepth 100000 in
set_option maxHeartbeats 1000000 in
theorem tuint_any (w : World) (n : Int) : Calls Tryz.prog 78 #[.int .i64 n] w (ValIs w (.agg #[.int .i64 2, .int .i64 n, .int .i64 0, .slice none 0 0, .slice none 0 0])) := by
 go_enter Tryz.func78, Tryz.ntmps78
 go_wp2
 refine bodyPost_ret (v := .agg #[.int .i64 2, .int .i64 n, .int .i64 0, .slice none 0 0, .slice none 0 0]) (by simp [results, Tryz.results78, go_sem]) rfl ?_
 exact ⟨rfl, by repeat (first | exact Ext.refl w | refine Ext.setCell ?_ (Nat.le_refl _) _ | refine Ext.alloc ?_ _)⟩

theorem valid_false {a : Acc} (h : ¬ ((a.width = 1 ∨ a.width = 2 ∨ a.width = 4) ∧ 0 ≤ a.off ∧ a.off ≤ 65532)) : validA a = false := by
 rw [Bool.eq_false_iff]; exact fun e => h (valid_iff.1 e)
set_option maxRecDepth 100000 in
set_option maxHeartbeats 2000000 in
theorem valid_any (w : World) (a : Acc) : Calls Tryz.prog 38 #[accV a] w (TBool w (validA a)) := by
 obtain ⟨z, hz⟩ : ∃ z, validA a = z := ⟨_, rfl⟩
 rw [hz]
 have HZ := hid hz
 clear hz
 obtain ⟨ab, ao, aw, ag⟩ := a
 show Calls Tryz.prog 38 #[.agg #[.int .i64 ab, .int .i64 ao, .int .i64 aw, .bool ag]] w (TBool w z)
 by_cases h1 : aw = 1 ∨ aw = 2 ∨ aw = 4
 ·by_cases h2 : 0 ≤ ao
  ·by_cases h3 : ao ≤ 65532
   ·obtain rfl : z = true := by rw [← HZ.out]; exact valid_iff.2 ⟨h1, h2, h3⟩
    have d1 : decide (ao ≥ 0) = true := decide_eq_true h2
    have d2 : decide (ao ≤ 65532) = true := decide_eq_true h3
    rcases h1 with rfl | rfl | rfl
    all_goals
     go_enter Tryz.func38, Tryz.ntmps38
     go_wp2
     go_ret
     exact ⟨rfl, (Ext.refl w).alloc _⟩
   ·obtain rfl : z = false := by rw [← HZ.out]; exact valid_false fun h => h3 h.2.2
    have d1 : decide (ao ≥ 0) = true := decide_eq_true h2
    have d2 : decide (ao ≤ 65532) = false := decide_eq_false h3
    clear h3
    rcases h1 with rfl | rfl | rfl
    all_goals
     go_enter Tryz.func38, Tryz.ntmps38
     go_wp2
     go_ret
     exact ⟨rfl, (Ext.refl w).alloc _⟩
  ·obtain rfl : z = false := by rw [← HZ.out]; exact valid_false fun h => h2 h.2.1
   have d1 : decide (ao ≥ 0) = false := decide_eq_false h2
   clear h2
   rcases h1 with rfl | rfl | rfl
   all_goals
    go_enter Tryz.func38, Tryz.ntmps38
    go_wp2
    go_ret
    exact ⟨rfl, (Ext.refl w).alloc _⟩
 ·obtain rfl : z = false := by rw [← HZ.out]; exact valid_false fun h => h1 h.1
  have n1 : (aw == 1) = false := by simp; omega
  have n2 : (aw == 2) = false := by simp; omega
  have n4 : (aw == 4) = false := by simp; omega
  clear h1
  go_enter Tryz.func38, Tryz.ntmps38
  go_wp2
  go_ret
  exact ⟨rfl, (Ext.refl w).alloc _⟩

set_option maxRecDepth 100000 in
set_option maxHeartbeats 2000000 in
theorem part_any (w : World) (a : Acc) : Calls Tryz.prog 39 #[accV a] w (ValIs w (partV a)) := by
 obtain ⟨ab, ao, aw, ag⟩ := a
 cases ag with
 | true =>
  show Calls Tryz.prog 39 #[.agg #[.int .i64 ab, .int .i64 ao, .int .i64 aw, .bool true]] w (ValIs w (.agg #[.int .i64 ao, .int .i64 1, .int .i64 aw, .int .i64 0, .slice none 0 0, .slice none 0 0]))
  obtain ⟨W0, hW0⟩ : ∃ W0, (w.alloc (.cells #[.int .i64 ab, .int .i64 ao, .int .i64 aw, .bool true] 59)).alloc (.cells #[.int .i64 0, .int .i64 0, .int .i64 0, .int .i64 0, .slice none 0 0, .slice none 0 0] 48) = W0 := ⟨_, rfl⟩
  have hE0 : Ext w W0 := by rw [← hW0]; exact ((Ext.refl w).alloc _).alloc _
  have o1 : W0.cell? ⟨w.heap.size, 1, none⟩ = some (.int .i64 ao) := by rw [← hW0]; simp [go_sem]
  have o2 : W0.cell? ⟨w.heap.size, 2, none⟩ = some (.int .i64 aw) := by rw [← hW0]; simp [go_sem]
  have o3 : W0.cell? ⟨w.heap.size, 3, none⟩ = some (.bool true) := by rw [← hW0]; simp [go_sem]
  have u0 : W0.cell? ⟨w.heap.size + 1, 0, none⟩ = some (.int .i64 0) := by rw [← hW0]; simp [go_sem]
  have u1 : W0.cell? ⟨w.heap.size + 1, 1, none⟩ = some (.int .i64 0) := by rw [← hW0]; simp [go_sem]
  have u2 : W0.cell? ⟨w.heap.size + 1, 2, none⟩ = some (.int .i64 0) := by rw [← hW0]; simp [go_sem]
  have u3 : W0.cell? ⟨w.heap.size + 1, 3, none⟩ = some (.int .i64 0) := by rw [← hW0]; simp [go_sem]
  have u4 : W0.cell? ⟨w.heap.size + 1, 4, none⟩ = some (.slice none 0 0) := by rw [← hW0]; simp [go_sem]
  have u5 : W0.cell? ⟨w.heap.size + 1, 5, none⟩ = some (.slice none 0 0) := by rw [← hW0]; simp [go_sem]
  have uf : ∀ i, W0.frozen? ⟨w.heap.size + 1, i, none⟩ = false := by intro i; rw [← hW0]; simp [go_sem]
  have hlt : w.heap.size + 1 < W0.heap.size := by rw [← hW0]; simp
  have HUF := hid uf
  have HLT := hid hlt
  clear uf hlt
  go_enter Tryz.func39, Tryz.ntmps39
  go_wp2_with fail
  clear hW0
  refine wp_region_split 6 (by kernel_rfl) rfl rfl (by kernel_rfl) (fun w' => w'.cell? ⟨w.heap.size, 1, none⟩ = some (.int .i64 ao) ∧ w'.cell? ⟨w.heap.size, 2, none⟩ = some (.int .i64 aw)) ⟨o1, o2⟩ (fun hSg18q0 => ?_)
  refine rgT4 0 1 2 3 ?_
  refine rgC 4 (fun K hK => ?_)
  go_simp
  go_at_call 77
  refine (tint_any _ aw).mono ?_
  rintro e w5 ⟨rfl, hx5⟩
  have HX5 := hid hx5.drew_left
  clear hx5
  refine rgK hK ⟨HX5.out.cell o1, HX5.out.cell o2⟩ (fun hSg18q1 => ?_)
  clear hK K
  refine rgT 5 ?_
  refine wpAnyH_done (by kernel_rfl) ?_ _
  change wpList _ _ _ _ _ _
  have HE0 := hid hE0
  have g0 := (HX5.out.frozen (p := ⟨w.heap.size + 1, 0, none⟩) HLT.out).trans (HUF.out 0)
  have g1 := (HX5.out.frozen (p := ⟨w.heap.size + 1, 1, none⟩) HLT.out).trans (HUF.out 1)
  have g2 := (HX5.out.frozen (p := ⟨w.heap.size + 1, 2, none⟩) HLT.out).trans (HUF.out 2)
  have g3 := (HX5.out.frozen (p := ⟨w.heap.size + 1, 3, none⟩) HLT.out).trans (HUF.out 3)
  have g4 := (HX5.out.frozen (p := ⟨w.heap.size + 1, 4, none⟩) HLT.out).trans (HUF.out 4)
  have g5 := (HX5.out.frozen (p := ⟨w.heap.size + 1, 5, none⟩) HLT.out).trans (HUF.out 5)
  have u0 := HX5.out.cell u0
  have u1 := HX5.out.cell u1
  have u2 := HX5.out.cell u2
  have u3 := HX5.out.cell u3
  have u4 := HX5.out.cell u4
  have u5 := HX5.out.cell u5
  have hc := set6_cells u0 u1 u2 u3 u4 u5 (.int .i64 ao) (.int .i64 1) (.int .i64 aw) (.int .i64 0) (.slice none 0 0) (.slice none 0 0)
  have hx : Ext w ((((((w5.setCell ⟨w.heap.size + 1, 0, none⟩ (.int .i64 ao)).setCell ⟨w.heap.size + 1, 1, none⟩ (.int .i64 1)).setCell ⟨w.heap.size + 1, 2, none⟩ (.int .i64 aw)).setCell ⟨w.heap.size + 1, 3, none⟩ (.int .i64 0)).setCell ⟨w.heap.size + 1, 4, none⟩ (.slice none 0 0)).setCell ⟨w.heap.size + 1, 5, none⟩ (.slice none 0 0)) := set6_ext (HE0.out.trans HX5.out) (by omega) _ _ _ _ _ _
  obtain ⟨W6, hW6⟩ : ∃ W6, (((((w5.setCell ⟨w.heap.size + 1, 0, none⟩ (.int .i64 ao)).setCell ⟨w.heap.size + 1, 1, none⟩ (.int .i64 1)).setCell ⟨w.heap.size + 1, 2, none⟩ (.int .i64 aw)).setCell ⟨w.heap.size + 1, 3, none⟩ (.int .i64 0)).setCell ⟨w.heap.size + 1, 4, none⟩ (.slice none 0 0)).setCell ⟨w.heap.size + 1, 5, none⟩ (.slice none 0 0) = W6 := ⟨_, rfl⟩
  rw [hW6] at hc hx
  obtain ⟨r0, r1, r2, r3, r4, r5⟩ := hc
  have HX6 := hid hx
  have HW6 := hid hW6
  clear o1 o2 o3 hE0 hx hW6
  go_wp2
  rw [HW6.out]
  refine bodyPost_ret (v := .agg #[.int .i64 ao, .int .i64 1, .int .i64 aw, .int .i64 0, .slice none 0 0, .slice none 0 0]) (by simp [results, Tryz.results39, go_sem, r0, r1, r2, r3, r4, r5]) rfl ?_
  exact ⟨rfl, HX6.out⟩
 | false =>
  show Calls Tryz.prog 39 #[.agg #[.int .i64 ab, .int .i64 ao, .int .i64 aw, .bool false]] w (ValIs w (.agg #[.int .i64 ao, .int .i64 2, .int .i64 aw, .int .i64 0, .slice none 0 0, .slice none 0 0]))
  obtain ⟨W0, hW0⟩ : ∃ W0, (w.alloc (.cells #[.int .i64 ab, .int .i64 ao, .int .i64 aw, .bool false] 59)).alloc (.cells #[.int .i64 0, .int .i64 0, .int .i64 0, .int .i64 0, .slice none 0 0, .slice none 0 0] 48) = W0 := ⟨_, rfl⟩
  have hE0 : Ext w W0 := by rw [← hW0]; exact ((Ext.refl w).alloc _).alloc _
  have o1 : W0.cell? ⟨w.heap.size, 1, none⟩ = some (.int .i64 ao) := by rw [← hW0]; simp [go_sem]
  have o2 : W0.cell? ⟨w.heap.size, 2, none⟩ = some (.int .i64 aw) := by rw [← hW0]; simp [go_sem]
  have o3 : W0.cell? ⟨w.heap.size, 3, none⟩ = some (.bool false) := by rw [← hW0]; simp [go_sem]
  have u0 : W0.cell? ⟨w.heap.size + 1, 0, none⟩ = some (.int .i64 0) := by rw [← hW0]; simp [go_sem]
  have u1 : W0.cell? ⟨w.heap.size + 1, 1, none⟩ = some (.int .i64 0) := by rw [← hW0]; simp [go_sem]
  have u2 : W0.cell? ⟨w.heap.size + 1, 2, none⟩ = some (.int .i64 0) := by rw [← hW0]; simp [go_sem]
  have u3 : W0.cell? ⟨w.heap.size + 1, 3, none⟩ = some (.int .i64 0) := by rw [← hW0]; simp [go_sem]
  have u4 : W0.cell? ⟨w.heap.size + 1, 4, none⟩ = some (.slice none 0 0) := by rw [← hW0]; simp [go_sem]
  have u5 : W0.cell? ⟨w.heap.size + 1, 5, none⟩ = some (.slice none 0 0) := by rw [← hW0]; simp [go_sem]
  have uf : ∀ i, W0.frozen? ⟨w.heap.size + 1, i, none⟩ = false := by intro i; rw [← hW0]; simp [go_sem]
  have hlt : w.heap.size + 1 < W0.heap.size := by rw [← hW0]; simp
  have HUF := hid uf
  have HLT := hid hlt
  clear uf hlt
  go_enter Tryz.func39, Tryz.ntmps39
  go_wp2_with fail
  clear hW0
  refine wp_region_split 6 (by kernel_rfl) rfl rfl (by kernel_rfl) (fun w' => w'.cell? ⟨w.heap.size, 1, none⟩ = some (.int .i64 ao) ∧ w'.cell? ⟨w.heap.size, 2, none⟩ = some (.int .i64 aw)) ⟨o1, o2⟩ (fun hSg19q0 => ?_)
  refine rgT4 0 1 2 3 ?_
  refine rgC 4 (fun K hK => ?_)
  go_simp
  go_at_call 78
  refine (tuint_any _ aw).mono ?_
  rintro e w5 ⟨rfl, hx5⟩
  have HX5 := hid hx5.drew_left
  clear hx5
  refine rgK hK ⟨HX5.out.cell o1, HX5.out.cell o2⟩ (fun hSg19q1 => ?_)
  clear hK K
  refine rgT 5 ?_
  refine wpAnyH_done (by kernel_rfl) ?_ _
  change wpList _ _ _ _ _ _
  have HE0 := hid hE0
  have g0 := (HX5.out.frozen (p := ⟨w.heap.size + 1, 0, none⟩) HLT.out).trans (HUF.out 0)
  have g1 := (HX5.out.frozen (p := ⟨w.heap.size + 1, 1, none⟩) HLT.out).trans (HUF.out 1)
  have g2 := (HX5.out.frozen (p := ⟨w.heap.size + 1, 2, none⟩) HLT.out).trans (HUF.out 2)
  have g3 := (HX5.out.frozen (p := ⟨w.heap.size + 1, 3, none⟩) HLT.out).trans (HUF.out 3)
  have g4 := (HX5.out.frozen (p := ⟨w.heap.size + 1, 4, none⟩) HLT.out).trans (HUF.out 4)
  have g5 := (HX5.out.frozen (p := ⟨w.heap.size + 1, 5, none⟩) HLT.out).trans (HUF.out 5)
  have u0 := HX5.out.cell u0
  have u1 := HX5.out.cell u1
  have u2 := HX5.out.cell u2
  have u3 := HX5.out.cell u3
  have u4 := HX5.out.cell u4
  have u5 := HX5.out.cell u5
  have hc := set6_cells u0 u1 u2 u3 u4 u5 (.int .i64 ao) (.int .i64 2) (.int .i64 aw) (.int .i64 0) (.slice none 0 0) (.slice none 0 0)
  have hx : Ext w ((((((w5.setCell ⟨w.heap.size + 1, 0, none⟩ (.int .i64 ao)).setCell ⟨w.heap.size + 1, 1, none⟩ (.int .i64 2)).setCell ⟨w.heap.size + 1, 2, none⟩ (.int .i64 aw)).setCell ⟨w.heap.size + 1, 3, none⟩ (.int .i64 0)).setCell ⟨w.heap.size + 1, 4, none⟩ (.slice none 0 0)).setCell ⟨w.heap.size + 1, 5, none⟩ (.slice none 0 0)) := set6_ext (HE0.out.trans HX5.out) (by omega) _ _ _ _ _ _
  obtain ⟨W6, hW6⟩ : ∃ W6, (((((w5.setCell ⟨w.heap.size + 1, 0, none⟩ (.int .i64 ao)).setCell ⟨w.heap.size + 1, 1, none⟩ (.int .i64 2)).setCell ⟨w.heap.size + 1, 2, none⟩ (.int .i64 aw)).setCell ⟨w.heap.size + 1, 3, none⟩ (.int .i64 0)).setCell ⟨w.heap.size + 1, 4, none⟩ (.slice none 0 0)).setCell ⟨w.heap.size + 1, 5, none⟩ (.slice none 0 0) = W6 := ⟨_, rfl⟩
  rw [hW6] at hc hx
  obtain ⟨r0, r1, r2, r3, r4, r5⟩ := hc
  have HX6 := hid hx
  have HW6 := hid hW6
  clear o1 o2 o3 hE0 hx hW6
  go_wp2
  rw [HW6.out]
  refine bodyPost_ret (v := .agg #[.int .i64 ao, .int .i64 2, .int .i64 aw, .int .i64 0, .slice none 0 0, .slice none 0 0]) (by simp [results, Tryz.results39, go_sem, r0, r1, r2, r3, r4, r5]) rfl ?_
  exact ⟨rfl, HX6.out⟩

theorem sizeT_le (t : Ty) : sizeT t ≤ 65536 := by
 unfold sizeT
 split
 ·have := (goodT_iff.1 ‹_›).2.2
  rw [wiT_eq] at this
  simp only [Bool.and_eq_true, decide_eq_true_eq] at this
  exact this.1.1.2
 ·omega
set_option maxRecDepth 100000 in
set_option maxHeartbeats 2000000 in
theorem end_any (d : Nat) (w : World) (f : Int × Ty) (v : Value) (hv : FdV d w All v f) (h0 : 0 ≤ f.1) (h1 : f.1 ≤ 131072) : Calls Tryz.prog 43 #[v] w (TInt w (endF f)) := by
 obtain ⟨A, na, ca, B, nb, cb, rfl, hi, hv1⟩ := hv
 obtain ⟨W0, hW0⟩ : ∃ W0, w.alloc (.cells #[.int .i64 f.1, .int .i64 f.2.kind, .int .i64 f.2.size, .int .i64 f.2.count, .slice A na ca, .slice B nb cb] 48) = W0 := ⟨_, rfl⟩
 have hE0 : Ext w W0 := by rw [← hW0]; exact (Ext.refl w).alloc _
 have p0 : W0.cell? ⟨w.heap.size, 0, none⟩ = some (.int .i64 f.1) := by rw [← hW0]; simp [go_sem]
 have p1 : W0.cell? ⟨w.heap.size, 1, none⟩ = some (.int .i64 f.2.kind) := by rw [← hW0]; simp [go_sem]
 have p2 : W0.cell? ⟨w.heap.size, 2, none⟩ = some (.int .i64 f.2.size) := by rw [← hW0]; simp [go_sem]
 have p3 : W0.cell? ⟨w.heap.size, 3, none⟩ = some (.int .i64 f.2.count) := by rw [← hW0]; simp [go_sem]
 have p4 : W0.cell? ⟨w.heap.size, 4, none⟩ = some (.slice A na ca) := by rw [← hW0]; simp [go_sem]
 have p5 : W0.cell? ⟨w.heap.size, 5, none⟩ = some (.slice B nb cb) := by rw [← hW0]; simp [go_sem]
 have HE0 := hid hE0
 clear hE0
 have HC := hid (fun w' (hw : Ext W0 w') => sizeof_any d w' f.2 _ (hv1.ext (HE0.out.trans hw)))
 have hs0 := Go.Deco.sizeT_nonneg f.2
 have hs1 := sizeT_le f.2
 have he : endF f = f.1 + sizeT f.2 := rfl
 obtain ⟨z, hz⟩ : ∃ z, sizeT f.2 = z := ⟨_, rfl⟩
 rw [hz] at HC hs0 hs1 he
 rw [he]
 have w1 : IntKind.i64.wrap (f.1 + z) = f.1 + z := IntWalk.i64_in _ (by omega)
 clear hi hv1 hz he
 go_enter Tryz.func43, Tryz.ntmps43
 go_wp2_with fail
 clear hW0
 refine wp_region_held_drew (S := (fun w' => w'.cell? ⟨w.heap.size, 0, none⟩ = some (.int .i64 f.1) ∧ w'.cell? ⟨w.heap.size, 1, none⟩ = some (.int .i64 f.2.kind) ∧ w'.cell? ⟨w.heap.size, 2, none⟩ = some (.int .i64 f.2.size) ∧ w'.cell? ⟨w.heap.size, 3, none⟩ = some (.int .i64 f.2.count) ∧ w'.cell? ⟨w.heap.size, 4, none⟩ = some (.slice A na ca) ∧ w'.cell? ⟨w.heap.size, 5, none⟩ = some (.slice B nb cb))) (by kernel_rfl) ⟨p0, p1, p2, p3, p4, p5⟩ (fun hSg20q0 => ?_)
 refine rgT4 0 1 2 3 ?_
 refine rgC 4 (fun K hK => ?_)
 go_simp
 go_at_call 23
 refine (HC.out _ (Ext.refl W0).drew).mono ?_
 rintro e w5 ⟨rfl, hx5⟩
 have HX5 := hid hx5.drew_left
 clear hx5
 refine rgK hK ⟨HX5.out.cell p0, HX5.out.cell p1, HX5.out.cell p2, HX5.out.cell p3, HX5.out.cell p4, HX5.out.cell p5⟩ (fun hSg20q1 => ?_)
 clear hK K
 refine rgT2 5 6 ?_
 refine wpAnyH_done (by kernel_rfl) ?_ _
 clear w1
 go_wp2
 go_ret
 exact ⟨rfl, HE0.out.trans HX5.out⟩

set_option maxRecDepth 100000 in
set_option maxHeartbeats 1000000 in
theorem integer_any (d : Nat) (w : World) (t : Ty) (v : Value) (hv : TyV d w All v t) : Calls Tryz.prog 85 #[v] w (TBool w (intK t)) := by
 obtain ⟨A, na, ca, B, nb, cb, rfl, -⟩ := hv
 obtain ⟨W0, hW0⟩ : ∃ W0, w.alloc (.cells #[.int .i64 t.kind, .int .i64 t.size, .int .i64 t.count, .slice A na ca, .slice B nb cb] 25) = W0 := ⟨_, rfl⟩
 have hE0 : Ext w W0 := by rw [← hW0]; exact (Ext.refl w).alloc _
 have o0 : W0.cell? ⟨w.heap.size, 0, none⟩ = some (.int .i64 t.kind) := by rw [← hW0]; simp [go_sem]
 have o1 : W0.cell? ⟨w.heap.size, 1, none⟩ = some (.int .i64 t.size) := by rw [← hW0]; simp [go_sem]
 have o2 : W0.cell? ⟨w.heap.size, 2, none⟩ = some (.int .i64 t.count) := by rw [← hW0]; simp [go_sem]
 have o3 : W0.cell? ⟨w.heap.size, 3, none⟩ = some (.slice A na ca) := by rw [← hW0]; simp [go_sem]
 have o4 : W0.cell? ⟨w.heap.size, 4, none⟩ = some (.slice B nb cb) := by rw [← hW0]; simp [go_sem]
 have HE0 := hid hE0
 clear hE0
 obtain ⟨z, hz⟩ : ∃ z, intK t = z := ⟨_, rfl⟩
 rw [hz]
 unfold intK at hz
 have HZ := hid hz
 clear hz
 obtain ⟨k, s, c, e, f⟩ := t
 simp only [Ty.kind, Ty.size, Ty.count] at *
 by_cases h1 : k = 1
 ·subst h1
  obtain rfl : z = true := HZ.out.symm
  go_enter Tryz.func85, Tryz.ntmps85
  go_wp2
  go_ret
  exact ⟨rfl, HE0.out⟩
 ·by_cases h2 : k = 2
  ·subst h2
   obtain rfl : z = true := HZ.out.symm
   go_enter Tryz.func85, Tryz.ntmps85
   go_wp2
   go_ret
   exact ⟨rfl, HE0.out⟩
  ·have n1 : (k == 1) = false := by simp [h1]
   have n2 : (k == 2) = false := by simp [h2]
   obtain rfl : z = false := by rw [← HZ.out]; simp [h1, h2]
   clear h1 h2
   go_enter Tryz.func85, Tryz.ntmps85
   go_wp2
   go_ret
   exact ⟨rfl, HE0.out⟩
end Go.Proofs.YtacmjhcfjhpkeaaGreatDoor

namespace Go.Proofs.YtacmjhcfjhpkeaaGreatDoor
open Go.RowKit Go.Deco
set_option linter.unusedSimpArgs false
set_option linter.unusedVariables false

set_option maxRecDepth 100000 in
set_option maxHeartbeats 1000000 in
theorem rint_any (w : World) (n : Int) : Calls Tryz.prog 32 #[.int .i64 n] w (ValIs w (.agg #[.int .i64 1, .int .i64 n, .int .i64 0, .slice none 0 0, .slice none 0 0])) := by
 go_enter Tryz.func32, Tryz.ntmps32
 go_wp2
 refine bodyPost_ret (v := .agg #[.int .i64 1, .int .i64 n, .int .i64 0, .slice none 0 0, .slice none 0 0]) (by simp [results, Tryz.results32, go_sem]) rfl ?_
 exact ⟨rfl, by repeat (first | exact Ext.refl w | refine Ext.setCell ?_ (Nat.le_refl _) _ | refine Ext.alloc ?_ _)⟩
set_option maxRecDepth 100000 in
set_option maxHeartbeats 1000000 in
theorem ruint_any (w : World) (n : Int) : Calls Tryz.prog 89 #[.int .i64 n] w (ValIs w (.agg #[.int .i64 2, .int .i64 n, .int .i64 0, .slice none 0 0, .slice none 0 0])) := by
 go_enter Tryz.func89, Tryz.ntmps89
 go_wp2
 refine bodyPost_ret (v := .agg #[.int .i64 2, .int .i64 n, .int .i64 0, .slice none 0 0, .slice none 0 0]) (by simp [results, Tryz.results89, go_sem]) rfl ?_
 exact ⟨rfl, by repeat (first | exact Ext.refl w | refine Ext.setCell ?_ (Nat.le_refl _) _ | refine Ext.alloc ?_ _)⟩
set_option maxRecDepth 100000 in
set_option maxHeartbeats 2000000 in
theorem isvalid_any (w : World) (a : Acc) : Calls Tryz.prog 26 #[accV a] w (TBool w (validA a)) := by
 obtain ⟨z, hz⟩ : ∃ z, validA a = z := ⟨_, rfl⟩
 rw [hz]
 have HZ := hid hz
 clear hz
 obtain ⟨ab, ao, aw, ag⟩ := a
 show Calls Tryz.prog 26 #[.agg #[.int .i64 ab, .int .i64 ao, .int .i64 aw, .bool ag]] w (TBool w z)
 by_cases h1 : aw = 1 ∨ aw = 2 ∨ aw = 4
 ·by_cases h2 : 0 ≤ ao
  ·by_cases h3 : ao ≤ 65532
   ·obtain rfl : z = true := by rw [← HZ.out]; exact valid_iff.2 ⟨h1, h2, h3⟩
    have d1 : decide (ao ≥ 0) = true := decide_eq_true h2
    have d2 : decide (ao ≤ 65532) = true := decide_eq_true h3
    rcases h1 with rfl | rfl | rfl
    all_goals
     go_enter Tryz.func26, Tryz.ntmps26
     go_wp2
     go_ret
     exact ⟨rfl, (Ext.refl w).alloc _⟩
   ·obtain rfl : z = false := by rw [← HZ.out]; exact valid_false fun h => h3 h.2.2
    have d1 : decide (ao ≥ 0) = true := decide_eq_true h2
    have d2 : decide (ao ≤ 65532) = false := decide_eq_false h3
    clear h3
    rcases h1 with rfl | rfl | rfl
    all_goals
     go_enter Tryz.func26, Tryz.ntmps26
     go_wp2
     go_ret
     exact ⟨rfl, (Ext.refl w).alloc _⟩
  ·obtain rfl : z = false := by rw [← HZ.out]; exact valid_false fun h => h2 h.2.1
   have d1 : decide (ao ≥ 0) = false := decide_eq_false h2
   clear h2
   rcases h1 with rfl | rfl | rfl
   all_goals
    go_enter Tryz.func26, Tryz.ntmps26
    go_wp2
    go_ret
    exact ⟨rfl, (Ext.refl w).alloc _⟩
 ·obtain rfl : z = false := by rw [← HZ.out]; exact valid_false fun h => h1 h.1
  have n1 : (aw == 1) = false := by simp; omega
  have n2 : (aw == 2) = false := by simp; omega
  have n4 : (aw == 4) = false := by simp; omega
  clear h1
  go_enter Tryz.func26, Tryz.ntmps26
  go_wp2
  go_ret
  exact ⟨rfl, (Ext.refl w).alloc _⟩

set_option maxRecDepth 100000 in
set_option maxHeartbeats 1000000 in
theorem whole_any (d : Nat) (w : World) (f : Int × Ty) (v : Value) (hv : FdV d w All v f) : Calls Tryz.prog 97 #[v] w (TBool w (intK f.2)) := by
 obtain ⟨A, na, ca, B, nb, cb, rfl, hi, hv1⟩ := hv
 obtain ⟨W0, hW0⟩ : ∃ W0, w.alloc (.cells #[.int .i64 f.1, .int .i64 f.2.kind, .int .i64 f.2.size, .int .i64 f.2.count, .slice A na ca, .slice B nb cb] 48) = W0 := ⟨_, rfl⟩
 have hE0 : Ext w W0 := by rw [← hW0]; exact (Ext.refl w).alloc _
 have p1 : W0.cell? ⟨w.heap.size, 1, none⟩ = some (.int .i64 f.2.kind) := by rw [← hW0]; simp [go_sem]
 have HE0 := hid hE0
 clear hi hv1 hE0
 obtain ⟨o, t⟩ := f
 simp only at hW0 p1 ⊢
 obtain ⟨z, hz⟩ : ∃ z, intK t = z := ⟨_, rfl⟩
 rw [hz]
 unfold intK at hz
 have HZ := hid hz
 clear hz
 obtain ⟨k, s, c, e, f⟩ := t
 simp only [Ty.kind, Ty.size, Ty.count] at *
 by_cases h1 : k = 1
 ·subst h1
  obtain rfl : z = true := HZ.out.symm
  go_enter Tryz.func97, Tryz.ntmps97
  go_wp2
  go_ret
  exact ⟨rfl, HE0.out⟩
 ·by_cases h2 : k = 2
  ·subst h2
   obtain rfl : z = true := HZ.out.symm
   go_enter Tryz.func97, Tryz.ntmps97
   go_wp2
   go_ret
   exact ⟨rfl, HE0.out⟩
  ·have n1 : (k == 1) = false := by simp [h1]
   have n2 : (k == 2) = false := by simp [h2]
   obtain rfl : z = false := by rw [← HZ.out]; simp [h1, h2]
   clear h1 h2
   go_enter Tryz.func97, Tryz.ntmps97
   go_wp2
   go_ret
   exact ⟨rfl, HE0.out⟩
end Go.Proofs.YtacmjhcfjhpkeaaGreatDoor

namespace Go.Proofs.YtacmjhcfjhpkeaaGreatDoor
open Go.RowKit Go.Deco
set_option linter.unusedSimpArgs false
set_option linter.unusedVariables false

set_option maxRecDepth 100000 in
set_option maxHeartbeats 4000000 in
theorem deep_any : ∀ (d : Nat) (w : World) (t : Ty) (v : Value) (n : Nat), TyV d w All v t → n ≤ 64 → Calls Tryz.prog 74 #[v, .int .i64 n] w (TBool w (!shalT t n)) := by
 intro d
 induction d using Nat.strongRecOn with
 | _ d ih =>
  intro w t v n hv hn
  obtain ⟨A, na, ca, B, nb, cb, rfl, hE, hF, hk, hs, hc⟩ := hv
  have hla := hE.len
  have hlb := hF.len
  obtain ⟨hac, ham⟩ := hE.cap
  obtain ⟨hbc, hbm⟩ := hF.cap
  obtain ⟨z, hz⟩ : ∃ z, shalT t n = z := ⟨_, rfl⟩
  rw [hz]
  rw [shalT_eq] at hz
  obtain ⟨tk, ts, tc, te, tf⟩ := t
  simp only [Ty.kind, Ty.size, Ty.count, Ty.elem, Ty.fields] at hz hE hF hla hlb ⊢
  obtain ⟨W0, hW0⟩ : ∃ W0, w.alloc (.cells #[.int .i64 tk, .int .i64 ts, .int .i64 tc, .slice A na ca, .slice B nb cb] 25) = W0 := ⟨_, rfl⟩
  have hE0 : Ext w W0 := by rw [← hW0]; exact (Ext.refl w).alloc _
  have o3 : W0.cell? ⟨w.heap.size, 3, none⟩ = some (.slice A na ca) := by rw [← hW0]; simp [go_sem]
  have o4 : W0.cell? ⟨w.heap.size, 4, none⟩ = some (.slice B nb cb) := by rw [← hW0]; simp [go_sem]
  have HZ := hid hz
  have HE := hid hE
  have HF := hid hF
  have HLA := hid hla
  have HLB := hid hlb
  have HE0 := hid hE0
  have HIH := hid ih
  clear hz hE hF hla hlb hE0 ih hk hs hc
  by_cases h0 : n = 0
  ·subst h0
   obtain rfl : z = false := HZ.out.symm
   go_enter Tryz.func74, Tryz.ntmps74
   go_wp2
   go_ret
   exact ⟨rfl, HE0.out⟩
  ·obtain ⟨n', hn'⟩ : ∃ n', n - 1 = n' := ⟨_, rfl⟩
   have hn64 : n' ≤ 64 := by omega
   have w1 : IntKind.i64.wrap ((n : Int) - 1) = (n' : Int) := by rw [IntWalk.i64_in _ (by omega)]; omega
   have HZ2 : Hid ((te.all (fun x => shalT x n') && tf.all (fun f => shalT f.2 n')) = z) := hid (by
    have h := HZ.out
    rw [decide_eq_true (by omega), Bool.true_and] at h
    have e : (n : Int) - 1 = n' := by omega
    rw [e] at h
    exact h)
   have h01 : 1 ≤ n := by omega
   clear HZ hn' h0
   go_enter Tryz.func74, Tryz.ntmps74
   go_wp2
   go_loopw [5] (fun i wr => ∃ k : Nat, k ≤ na ∧ i = .int .i64 k ∧ Hid (Ext W0 wr) ∧ Hid ((te.take k).all (fun x => shalT x n') = true)) (fun i _ => na - (intOf i).toNat)
   case atStart => exact ⟨0, by omega, rfl, hid (Ext.refl _), hid rfl⟩
   case round =>
    obtain ⟨k, hk, rfl, HX, HA⟩ := hrel
    have o3 := HX.out.cell o3
    by_cases h1 : k < na
    ·obtain ⟨x, hx⟩ : ∃ x, te[k]? = some x := ⟨_, List.getElem?_eq_getElem (by have := HLA.out; omega)⟩
     obtain ⟨d', b, off, A1, n1, c1, B1, m1, e1, hd, rfl, hv1, c0, c1', c2, c3, c4⟩ := (HE.out.ext (HE0.out.trans HX.out)).ty_at hx
     have HC := hid (fun w' (hw : Ext wr w') => HIH.out d' (by omega) w' x _ n' (hv1.ext hw) (by omega))
     have HXX := hid hx
     clear hd hv1 hx
     obtain ⟨r, hr⟩ : ∃ r, shalT x n' = r := ⟨_, rfl⟩
     rw [hr] at HC
     have HR := hid hr
     clear hr
     go_wp2_with fail
     refine (HC.out _ (Ext.refl _)).mono ?_
     rintro e w5 ⟨rfl, hx5⟩
     have HX5 := hid (HX.out.trans hx5)
     clear hx5 c0 c1' c2 c3 c4 o3
     cases r with
     | true =>
      go_wp2
      go_roundw
      case rel => exact ⟨k + 1, by omega, by go_num, HX5, hid (allT_step HXX.out HR.out HA.out)⟩
      case measure => simp [intOf]; omega
     | false =>
      go_wp2
      go_ret
      refine ⟨ret_bool ?_, HE0.out.trans HX5.out⟩
      rw [← HZ2.out, allT_hit HXX.out HR.out, Bool.false_and]
      rfl
    ·obtain rfl : k = na := by omega
     have HA2 : Hid (te.all (fun x => shalT x n') = true) := hid (by have h := HA.out; rwa [List.take_of_length_le (by have := HLA.out; omega)] at h)
     have HO4 := hid o4
     clear HA
     go_wp2
     clear o3
     go_loopw [6] (fun i wr => ∃ k : Nat, k ≤ nb ∧ i = .int .i64 k ∧ Hid (Ext W0 wr) ∧ Hid ((tf.take k).all (fun f => shalT f.2 n') = true)) (fun i _ => nb - (intOf i).toNat)
     case atStart => exact ⟨0, by omega, rfl, HX, hid rfl⟩
     case round =>
      obtain ⟨j, hj, rfl, HX2, HB⟩ := hrel
      have o4 := HX2.out.cell HO4.out
      by_cases h2 : j < nb
      ·obtain ⟨x, hx⟩ : ∃ x, tf[j]? = some x := ⟨_, List.getElem?_eq_getElem (by have := HLB.out; omega)⟩
       obtain ⟨d', b, off, A1, n1, c1, B1, m1, e1, hd, rfl, hv1, -, c0, c1', c2, c3, c4, c5⟩ := (HF.out.ext (HE0.out.trans HX2.out)).fd_at hx
       have HC := hid (fun w' (hw : Ext wr w') => HIH.out d' (by omega) w' x.2 _ n' (hv1.ext hw) (by omega))
       have HXX := hid hx
       clear hd hv1 hx
       obtain ⟨r, hr⟩ : ∃ r, shalT x.2 n' = r := ⟨_, rfl⟩
       rw [hr] at HC
       have HR := hid hr
       clear hr
       go_wp2_with fail
       refine (HC.out _ (Ext.refl _)).mono ?_
       rintro e w5 ⟨rfl, hx5⟩
       have HX5 := hid (HX2.out.trans hx5)
       clear hx5 c0 c1' c2 c3 c4 c5 o4
       cases r with
       | true =>
        go_wp2
        go_roundw
        case rel => exact ⟨j + 1, by omega, by go_num, HX5, hid (allT_step HXX.out HR.out HB.out)⟩
        case measure => simp [intOf]; omega
       | false =>
        go_wp2
        go_ret
        refine ⟨ret_bool ?_, HE0.out.trans HX5.out⟩
        rw [← HZ2.out, allT_hit (p := fun f : Int × Ty => shalT f.2 n') HXX.out HR.out, Bool.and_false]
        rfl
      ·obtain rfl : j = nb := by omega
       go_wp2
       go_ret
       refine ⟨ret_bool ?_, HE0.out.trans HX2.out⟩
       have h := HB.out
       rw [List.take_of_length_le (by have := HLB.out; omega)] at h
       rw [← HZ2.out, HA2.out, h]
       rfl
end Go.Proofs.YtacmjhcfjhpkeaaGreatDoor
