/- The law RelocValue. -/
import Derived.Test.YtnlofhbimfcejaaRelK
namespace Go.Proofs.Ytnlofhbimfcejaa
open Go.RowKit Go.Deco
set_option linter.unusedSimpArgs false
set_option linter.unusedVariables false

set_option maxRecDepth 100000 in
set_option maxHeartbeats 4000000 in
theorem rvl_any (w : World) (r : Rl) (p : Nat) (hp : p < 4294967296) (t : Nat) (ht : t < 4294967296) :
    Calls Try.prog 4 #[.agg #[.int .i64 r.sec, .int .i64 r.off, .int .i64 r.kind, .string r.sym, .int .i32 r.add], .int .u32 p, .int .u32 t] w (OneTrue w) := by
  have h1 := fun W => rlvalue_any W r p t
  have h2 := fun W => value7_any W r p t
  have h3 := fun W => rlvalue_any W ⟨0, 0, 1, ⟨#[]⟩, r.add⟩ p t
  have h4 := fun W => rlvalue_any W ⟨0, 0, 2, ⟨#[]⟩, r.add⟩ p t
  obtain ⟨n, er, hv⟩ : ∃ n er, relVal r p t = (n, er) := ⟨_, _, rfl⟩
  obtain ⟨a, hA⟩ : ∃ a, w32 (t + r.add) = a := ⟨_, rfl⟩
  obtain ⟨b, hB⟩ : ∃ b, w32 (t + r.add - p - 4) = b := ⟨_, rfl⟩
  have hva : relVal ⟨0, 0, 1, ⟨#[]⟩, r.add⟩ p t = (a, 0) := by rw [← hA]; rfl
  have hvb : relVal ⟨0, 0, 2, ⟨#[]⟩, r.add⟩ p t = (b, 0) := by rw [← hB]; rfl
  rw [hv] at h1 h2
  rw [hva] at h3
  rw [hvb] at h4
  obtain ⟨c, hC⟩ : ∃ c, w32 ((p : Int) + 4) = c := ⟨_, rfl⟩
  have e1 : IntKind.u32.wrap ((a : Int) - b) = (c : Int) := by
    rw [wrap_w32, ← hA, ← hB, w32_subr, ← hC]
    congr 2
    omega
  have e2 : IntKind.u32.wrap ((p : Int) + 4) = (c : Int) := by rw [wrap_w32, hC]
  have H1 := hid h1
  have H2 := hid h2
  have H3 := hid h3
  have H4 := hid h4
  have HE := hid (And.intro e1 e2)
  obtain ⟨sec, off, kd, sym, add⟩ := r
  dsimp only at H1 H2 H3 H4 ⊢
  obtain ⟨W0, hW0⟩ : ∃ W0, w.alloc (.cells #[.int .i64 sec, .int .i64 off, .int .i64 kd, .string sym, .int .i32 add] 36) = W0 := ⟨_, rfl⟩
  have hE0 : Ext w W0 := by rw [← hW0]; exact (Ext.refl w).alloc _
  have x0 : W0.cell? ⟨w.heap.size, 0, none⟩ = some (.int .i64 sec) := by rw [← hW0]; simp [go_sem]
  have x1 : W0.cell? ⟨w.heap.size, 1, none⟩ = some (.int .i64 off) := by rw [← hW0]; simp [go_sem]
  have x2 : W0.cell? ⟨w.heap.size, 2, none⟩ = some (.int .i64 kd) := by rw [← hW0]; simp [go_sem]
  have x3 : W0.cell? ⟨w.heap.size, 3, none⟩ = some (.string sym) := by rw [← hW0]; simp [go_sem]
  have x4 : W0.cell? ⟨w.heap.size, 4, none⟩ = some (.int .i32 add) := by rw [← hW0]; simp [go_sem]
  have HX := hid (And.intro x0 (And.intro x1 (And.intro x2 (And.intro x3 x4))))
  have HE0 := hid hE0
  clear h1 h2 h3 h4 hv hA hB hC hva hvb e1 e2 hE0
  go_enter Try.func4, Try.ntmps4
  go_wp2_with fail
  clear hW0 x0 x1 x2 x3 x4
  refine (H1.out _).mono ?_
  rintro e w1 ⟨rfl, hx1⟩
  have HX1 := hid hx1
  have x0 := hx1.cell HX.out.1
  have x1 := hx1.cell HX.out.2.1
  have x2 := hx1.cell HX.out.2.2.1
  have x3 := hx1.cell HX.out.2.2.2.1
  have x4 := hx1.cell HX.out.2.2.2.2
  clear hx1
  go_wp2_with fail
  clear x0 x1 x2 x3 x4
  refine (H2.out _).mono ?_
  rintro e w2 ⟨rfl, hx2⟩
  have HX2 := hid (HX1.out.trans hx2)
  have x4 := HX2.out.cell HX.out.2.2.2.2
  clear hx2
  go_wp2_with fail
  clear x4
  refine (H3.out _).mono ?_
  rintro e w3 ⟨rfl, hx3⟩
  have HX3 := hid (HX2.out.trans hx3)
  have x4 := HX3.out.cell HX.out.2.2.2.2
  clear hx3
  go_wp2_with fail
  clear x4
  refine (H4.out _).mono ?_
  rintro e w4 ⟨rfl, hx4⟩
  have HX4 := hid (HX3.out.trans hx4)
  obtain ⟨e1, e2⟩ := HE.out
  clear hx4
  go_wp2_with fail
  refine (example7_any _).mono ?_
  rintro e w5 ⟨rfl, hx5⟩
  have HX5 := hid (HE0.out.trans (HX4.out.trans hx5))
  clear hx5
  go_wp2
  go_ret
  exact ⟨rfl, HX5.out⟩
end Go.Proofs.Ytnlofhbimfcejaa
