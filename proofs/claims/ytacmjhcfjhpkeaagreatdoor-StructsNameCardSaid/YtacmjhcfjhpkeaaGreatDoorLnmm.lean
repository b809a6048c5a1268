/- The law StructsName. -/
import Derived.Test.YtacmjhcfjhpkeaaGreatDoorL34Em
namespace Go.Proofs.YtacmjhcfjhpkeaaGreatDoor
open Go.RowKit Go.Deco
set_option linter.unusedSimpArgs false
set_option linter.unusedVariables false
set_option maxRecDepth 100000 in
set_option maxHeartbeats 4000000 in
theorem namelaw_any (w : World) (ht : Tab10 w) (hg : TabAt w) (d : Nat) (t : Ty) (v : Value) (hv : TyV d w All v t) : Calls Tryz.prog 3 #[v] w (TBool w true) := by
 have HT := hid ht
 have HG := hid hg
 have HV := hid hv
 obtain ⟨A, na, ca, B, nb, cb, rfl, -⟩ := hv
 obtain ⟨W0, hW0⟩ : ∃ W0, w.alloc (.cells #[.int .i64 t.kind, .int .i64 t.size, .int .i64 t.count, .slice A na ca, .slice B nb cb] 25) = W0 := ⟨_, rfl⟩
 have hE0 : Ext w W0 := by rw [← hW0]; exact (Ext.refl w).alloc _
 have o0 : W0.cell? ⟨w.heap.size, 0, none⟩ = some (.int .i64 t.kind) := by rw [← hW0]; simp [go_sem]
 have o1 : W0.cell? ⟨w.heap.size, 1, none⟩ = some (.int .i64 t.size) := by rw [← hW0]; simp [go_sem]
 have o2 : W0.cell? ⟨w.heap.size, 2, none⟩ = some (.int .i64 t.count) := by rw [← hW0]; simp [go_sem]
 have o3 : W0.cell? ⟨w.heap.size, 3, none⟩ = some (.slice A na ca) := by rw [← hW0]; simp [go_sem]
 have o4 : W0.cell? ⟨w.heap.size, 4, none⟩ = some (.slice B nb cb) := by rw [← hW0]; simp [go_sem]
 have HE0 := hid hE0
 clear hE0
 clear ht hg
 have HSM := hid (lsmall_any d W0 t _ (HV.out.ext HE0.out))
 have hnod : decide (0 ≤ ptT t 6 3000) = true → nodT t ≤ 1000000 := fun h => by
  have h0 := of_decide_eq_true h
  have := (ptT_nod t 6 3000 (by omega)).2.2 h0
  omega
 obtain ⟨z, hz⟩ : ∃ z, decide (0 ≤ ptT t 6 3000) = z := ⟨_, rfl⟩
 rw [hz] at HSM hnod
 have HND := hid hnod
 clear hz hnod
 go_enter Tryz.func3, Tryz.ntmps3
 go_wp2_with fail
 refine HSM.out.mono ?_
 rintro e w1 ⟨rfl, hx⟩
 have HX1 := hid hx
 clear hx
 have o0 := HX1.out.cell o0
 have o1 := HX1.out.cell o1
 have o2 := HX1.out.cell o2
 have o3 := HX1.out.cell o3
 have o4 := HX1.out.cell o4
 cases z with
 | false =>
  have HXLw2 := hid (lex_any w1 (HT.out.ext (HE0.out.trans HX1.out)) (HG.out.ext (HE0.out.trans HX1.out)))
  go_wp2_with fail
  refine HXLw2.out.mono ?_
  rintro e w2 ⟨rfl, hx⟩
  have HXw2 := hid (Ext.trans (HE0.out.trans HX1.out) hx)
  clear hx
  go_wp2
  go_ret
  exact ⟨rfl, HXw2.out⟩
 | true =>
  have hn := HND.out rfl
  obtain ⟨N, hN⟩ : ∃ N, nameT t = N := ⟨_, rfl⟩
  have HC1 := hid (fun W (hW : Ext w1 W) => sname_any d W t _ (((HV.out.ext HE0.out).ext HX1.out).ext hW) hn (HT.out.ext ((HE0.out.trans HX1.out).trans hW)) (HG.out.ext ((HE0.out.trans HX1.out).trans hW)))
  have HC2 := hid (fun W (hW : Ext w1 W) => rname_any d W t _ (((HV.out.ext HE0.out).ext HX1.out).ext hW) hn)
  have HC3 := hid (fun W (hW : Ext w1 W) => lex_any W (HT.out.ext ((HE0.out.trans HX1.out).trans hW)) (HG.out.ext ((HE0.out.trans HX1.out).trans hW)))
  rw [hN] at HC1 HC2
  unfold StrIs at HC1 HC2
  obtain ⟨s, hs⟩ : ∃ s, strOf N = s := ⟨_, rfl⟩
  rw [hs] at HC1 HC2
  clear hN hs hn
  go_wp2_with fail
  refine wp_region_held_drew (S := (fun w' => w'.cell? ⟨w.heap.size, 0, none⟩ = some (.int .i64 t.kind) ∧ w'.cell? ⟨w.heap.size, 1, none⟩ = some (.int .i64 t.size) ∧ w'.cell? ⟨w.heap.size, 2, none⟩ = some (.int .i64 t.count) ∧ w'.cell? ⟨w.heap.size, 3, none⟩ = some (.slice A na ca) ∧ w'.cell? ⟨w.heap.size, 4, none⟩ = some (.slice B nb cb))) (by kernel_rfl) ⟨o0, o1, o2, o3, o4⟩ (fun hSg96q0 => ?_)
  refine rgT 0 ?_
  refine rgT 2 ?_
  refine rgC 1 (fun K hK => ?_)
  go_simp
  go_at_call 14
  refine (HC1.out _ (Ext.refl w1).drew).mono ?_
  rintro e w2 ⟨rfl, hx⟩
  have HX2 := hid hx.drew_left
  clear hx
  refine hK.out _ _ ⟨HX2.out.cell o0, HX2.out.cell o1, HX2.out.cell o2, HX2.out.cell o3, HX2.out.cell o4⟩ (fun hSg96q1 => ?_)
  clear hK K
  try simp only [Act.put, List.setIfInBounds_toArray, List.set_cons_zero, List.set_cons_succ]
  refine rgC 3 (fun K hK => ?_)
  go_simp
  go_at_call 15
  refine (HC2.out _ HX2.out).mono ?_
  rintro e w3 ⟨rfl, hx⟩
  have HX3 := hid (HX2.out.trans hx)
  clear hx
  refine hK.out _ _ ⟨HX3.out.cell o0, HX3.out.cell o1, HX3.out.cell o2, HX3.out.cell o3, HX3.out.cell o4⟩ (fun hSg96q2 => ?_)
  clear hK K
  try simp only [Act.put, List.setIfInBounds_toArray, List.set_cons_zero, List.set_cons_succ]
  refine rgT 4 ?_
  refine rgT 5 ?_
  refine rgC 6 (fun K hK => ?_)
  go_simp
  go_at_call 13
  refine (HC3.out _ HX3.out).mono ?_
  rintro e w4 ⟨rfl, hx⟩
  have HX4 := hid (HX3.out.trans hx)
  clear hx
  refine hK.out _ _ ⟨HX4.out.cell o0, HX4.out.cell o1, HX4.out.cell o2, HX4.out.cell o3, HX4.out.cell o4⟩ (fun hSg96q3 => ?_)
  clear hK K
  try simp only [Act.put, List.setIfInBounds_toArray, List.set_cons_zero, List.set_cons_succ]
  refine rgT 7 ?_
  refine rgT 8 ?_
  refine wpAnyH_done (by kernel_rfl) ?_ _
  go_wp2
  go_ret
  exact ⟨rfl, (HE0.out.trans HX1.out).trans HX4.out⟩
end Go.Proofs.YtacmjhcfjhpkeaaGreatDoor
