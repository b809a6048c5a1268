/- MemoryNone: the walk of the statement. -/
import Derived.Test.YtjfdbfbdkjfgpaaLawC
import Derived.Test.YtjfdbfbdkjfgpaaLawD
namespace Go.Proofs.Ytjfdbfbdkjfgpaa
open Go.RowKit Go.Deco

set_option maxRecDepth 100000 in
set_option maxHeartbeats 1000000 in
theorem none_any (w : World) (kd wd : Int) (ad nn : Int) : Calls Try.prog 9 #[.agg #[.int .i64 kd, .int .i64 wd, .int .u32 ad, .int .u32 nn]] w (OneBool w true) := by
  go_enter Try.func9, Try.ntmps9
  go_wp2_with fail
  obtain ⟨w0, hw0⟩ : ∃ w0, ((w.alloc (Obj.cells #[.int .i64 kd, .int .i64 wd, .int .u32 ad, .int .u32 nn] 25)).alloc (Obj.cells #[.slice none 0 0, .map none] 63)).alloc (Obj.cells #[.pointer none, .pointer (some ⟨w.heap.size + 1, 0, none⟩)] 28) = w0 := ⟨_, rfl⟩
  have hE : Ext w w0 := by rw [← hw0]; exact (((Ext.refl w).alloc _).alloc _).alloc _
  have o1 : w0.cell? ⟨w.heap.size, 1, none⟩ = some (.int .i64 wd) := by rw [← hw0]; exact ((Ext.refl _).alloc _).cell (((Ext.refl _).alloc _).cell (new_cells w [.int .i64 kd, .int .i64 wd, .int .u32 ad, .int .u32 nn] _ 1 _ rfl))
  have o2 : w0.cell? ⟨w.heap.size, 2, none⟩ = some (.int .u32 ad) := by rw [← hw0]; exact ((Ext.refl _).alloc _).cell (((Ext.refl _).alloc _).cell (new_cells w [.int .i64 kd, .int .i64 wd, .int .u32 ad, .int .u32 nn] _ 2 _ rfl))
  have o3 : w0.cell? ⟨w.heap.size, 3, none⟩ = some (.int .u32 nn) := by rw [← hw0]; exact ((Ext.refl _).alloc _).cell (((Ext.refl _).alloc _).cell (new_cells w [.int .i64 kd, .int .i64 wd, .int .u32 ad, .int .u32 nn] _ 3 _ rfl))
  have z1 : (w.alloc (Obj.cells #[.int .i64 kd, .int .i64 wd, .int .u32 ad, .int .u32 nn] 25)).heap.size = w.heap.size + 1 := by simp
  have m1 : w0.cell? ⟨w.heap.size + 1, 1, none⟩ = some (.map none) := by rw [← hw0, ← z1]; exact ((Ext.refl _).alloc _).cell (new_cells _ [.slice none 0 0, .map none] _ 1 _ rfl)
  have z2 : ((w.alloc (Obj.cells #[.int .i64 kd, .int .i64 wd, .int .u32 ad, .int .u32 nn] 25)).alloc (Obj.cells #[.slice none 0 0, .map none] 63)).heap.size = w.heap.size + 2 := by simp
  have l0 : w0.cell? ⟨w.heap.size + 2, 0, none⟩ = some (.pointer none) := by rw [← hw0, ← z2]; exact new_cells _ [.pointer none, .pointer (some ⟨w.heap.size + 1, 0, none⟩)] _ 0 _ rfl
  have l1 : w0.cell? ⟨w.heap.size + 2, 1, none⟩ = some (.pointer (some ⟨w.heap.size + 1, 0, none⟩)) := by rw [← hw0, ← z2]; exact new_cells _ [.pointer none, .pointer (some ⟨w.heap.size + 1, 0, none⟩)] _ 1 _ rfl
  rw [hw0]
  have HE := hid hE
  clear hw0 hE
  go_loop [5] (fun i => ∃ k : Nat, k ≤ 2 ∧ i = .int .i64 k) (fun i => 2 - (intOf i).toNat)
  case atStart => exact ⟨0, by omega, rfl⟩
  case round =>
    obtain ⟨k, hk, rfl⟩ := hrel
    by_cases h1 : k < 2
    · obtain ⟨v, hv, hu⟩ : ∃ v, w0.cell? ⟨w.heap.size + 2, k, none⟩ = some v ∧ Unmade w0 v := by
        rcases (show k = 0 ∨ k = 1 by omega) with rfl | rfl
        · exact ⟨_, l0, .inl rfl⟩
        · exact ⟨_, l1, .inr ⟨_, rfl, m1⟩⟩
      have HU := hid hu
      clear hu l0 l1
      go_wp2_with fail
      refine (load_no _ v HU.out ad wd).mono ?_
      rintro e w1 ⟨rfl, rfl⟩
      go_wp2_with fail
      refine (fetch_no _ v HU.out ad).mono ?_
      rintro e w1 ⟨rfl, rfl⟩
      go_wp2_with fail
      refine (dump_no _ v HU.out ad wd).mono ?_
      rintro e w1 ⟨rfl, rfl⟩
      go_wp2_with fail
      refine (store_no _ v HU.out ad wd nn).mono ?_
      rintro e w1 ⟨rfl, rfl⟩
      go_wp2_with fail
      refine (changes_no _ v HU.out).mono ?_
      rintro e w1 ⟨rfl, rfl⟩
      go_wp2_with fail
      refine (clone_no _ v HU.out).mono ?_
      rintro e w1 ⟨rfl, rfl⟩
      go_wp2
      go_round
      case rel => exact ⟨k + 1, by omega, by go_num⟩
      case measure => simp [intOf]; omega
    · go_wp2_with fail
      refine (example_any _).mono ?_
      rintro e w1 ⟨rfl, hx⟩
      have HX := hid (HE.out.trans hx); clear hx
      go_wp2
      go_ret
      exact ⟨rfl, HX.out⟩
end Go.Proofs.Ytjfdbfbdkjfgpaa
