/- decompilerref45: try, with. -/
import Derived.Test.YtcddmggefmfkkaaExaA
import Derived.Test.YtcddmggefmfkkaaMinP
import Derived.Test.YtcddmggefmfkkaaStA
namespace Go.Proofs.Ytcddmggefmfkkaa
open Go.RowKit Go.Deco
set_option linter.unusedSimpArgs false
set_option linter.unusedVariables false

/-- A step of the reference's minimizer. -/
def RTry (w : World) (v : Value) (k : Nat) (r : Bool) (e : Ending) (w' : World) : Prop := Ext w w' ∧ e = .returned (.tuple #[.agg #[v, .int .i64 k], .bool r])

set_option maxRecDepth 100000 in
set_option maxHeartbeats 2000000 in
theorem rtry_out (w : World) (q : Rl) (A : Option Addr) (n c : Nat) (v' : Value) (k : Nat) (hk : 1000 ≤ k) (hk2 : k ≤ 1000) :
    Calls Try.prog 50 #[.agg #[.slice A n c, .int .i64 k], .agg #[.int .u32 q.least, .int .i64 q.count, .bool q.pair], v'] w (RTry w (.slice A n c) k false) := by
  obtain ⟨le, co, pa⟩ := q
  dsimp only
  have hkk : ¬ ((k : Int) < 1000) := by omega
  have hkk' : (k : Int) ≥ 1000 := by omega
  obtain rfl : k = 1000 := by omega
  go_enter Try.func50, Try.ntmps50
  go_wp2
  refine bodyPost_ret (v := .tuple #[.agg #[.slice A n c, .int .i64 ((1000 : Nat) : Int)], .bool false]) (by simp [results, Try.results50, go_sem, World.cell?_setCell_same, World.cell?_setCell_other]) rfl ?_
  exact ⟨(((Ext.refl w).alloc _).alloc _).alloc _, rfl⟩

set_option maxRecDepth 100000 in
set_option maxHeartbeats 2000000 in
theorem rtry_in (w : World) (q : Rl) (A A' : Option Addr) (n c n' c' k : Nat) (hk : k < 1000) (X : List Nat) (hX : Sl u32R w All (.slice A' n' c') X) (r : Bool) (hr : failsB q X = r) :
    Calls Try.prog 50 #[.agg #[.slice A n c, .int .i64 k], .agg #[.int .u32 q.least, .int .i64 q.count, .bool q.pair], .slice A' n' c'] w (RTry w (if r then .slice A' n' c' else .slice A n c) (k + 1) r) := by
  obtain ⟨le, co, pa⟩ := q
  dsimp only
  obtain ⟨W0, hW0⟩ : ∃ W0, ((w.alloc (.cells #[.slice A n c, .int .i64 k] 76)).alloc (.cells #[.int .u32 le, .int .i64 co, .bool pa] 43)).alloc (.cells #[.slice none 0 0, .int .i64 0] 76) = W0 := ⟨_, rfl⟩
  have hE0 : Ext w W0 := by rw [← hW0]; exact (((Ext.refl w).alloc _).alloc _).alloc _
  have hs0 : W0.heap.size = w.heap.size + 1 + 1 + 1 := by rw [← hW0]; simp
  have x0 : W0.cell? ⟨w.heap.size, 0, none⟩ = some (.slice A n c) := by rw [← hW0]; simp [go_sem]
  have x1 : W0.cell? ⟨w.heap.size, 1, none⟩ = some (.int .i64 k) := by rw [← hW0]; simp [go_sem]
  have q0 : W0.cell? ⟨w.heap.size + 1, 0, none⟩ = some (.int .u32 le) := by rw [← hW0]; simp [go_sem]
  have q1 : W0.cell? ⟨w.heap.size + 1, 1, none⟩ = some (.int .i64 co) := by rw [← hW0]; simp [go_sem]
  have q2 : W0.cell? ⟨w.heap.size + 1, 2, none⟩ = some (.bool pa) := by rw [← hW0]; simp [go_sem]
  have r0 : W0.cell? ⟨w.heap.size + 1 + 1, 0, none⟩ = some (.slice none 0 0) := by rw [← hW0]; simp [go_sem]
  have r1 : W0.cell? ⟨w.heap.size + 1 + 1, 1, none⟩ = some (.int .i64 0) := by rw [← hW0]; simp [go_sem]
  have f0 : ∀ i, W0.frozen? ⟨w.heap.size, i, none⟩ = false := fun i => by rw [← hW0]; simp [go_sem]
  have f2 : ∀ i, W0.frozen? ⟨w.heap.size + 1 + 1, i, none⟩ = false := fun i => by rw [← hW0]; simp [go_sem]
  have HE0 := hid hE0
  have HS0 := hid hs0
  have HF2 := hid f2
  have HF0 := hid f0
  have HX := hid hX
  have HR := hid hr
  have f01 := f0 1
  have hkk : (k : Int) < 1000 := by omega
  have hw1 : IntKind.i64.wrap ((k : Int) + 1) = (k : Int) + 1 := IntWalk.i64_in _ (by omega)
  obtain ⟨W1, hW1⟩ : ∃ W1, W0.setCell ⟨w.heap.size, 1, none⟩ (.int .i64 ((k : Int) + 1)) = W1 := ⟨_, rfl⟩
  have y0 : W1.cell? ⟨w.heap.size, 0, none⟩ = some (.slice A n c) := by rw [← hW1]; exact (World.cell?_setCell_other _ _ _ _ (by simp)).trans x0
  have y1 : W1.cell? ⟨w.heap.size, 1, none⟩ = some (.int .i64 ((k : Int) + 1)) := by rw [← hW1]; exact World.cell?_setCell_same' _ _ _ (by rw [x1]; rfl)
  have p0 : W1.cell? ⟨w.heap.size + 1, 0, none⟩ = some (.int .u32 le) := by rw [← hW1]; exact (World.cell?_setCell_other _ _ _ _ (by simp)).trans q0
  have p1 : W1.cell? ⟨w.heap.size + 1, 1, none⟩ = some (.int .i64 co) := by rw [← hW1]; exact (World.cell?_setCell_other _ _ _ _ (by simp)).trans q1
  have p2 : W1.cell? ⟨w.heap.size + 1, 2, none⟩ = some (.bool pa) := by rw [← hW1]; exact (World.cell?_setCell_other _ _ _ _ (by simp)).trans q2
  have s0 : W1.cell? ⟨w.heap.size + 1 + 1, 0, none⟩ = some (.slice none 0 0) := by rw [← hW1]; exact (World.cell?_setCell_other _ _ _ _ (by simp)).trans r0
  have s1 : W1.cell? ⟨w.heap.size + 1 + 1, 1, none⟩ = some (.int .i64 0) := by rw [← hW1]; exact (World.cell?_setCell_other _ _ _ _ (by simp)).trans r1
  have HE1 : Hid (Ext w W1) := hid (by rw [← hW1]; exact hE0.setCell (Nat.le_refl _) _)
  have HS1 : Hid (W1.heap.size = w.heap.size + 1 + 1 + 1) := hid (by rw [← hW1, World.size_setCell]; exact hs0)
  have HF1 : Hid (∀ b i, W1.frozen? ⟨b, i, none⟩ = W0.frozen? ⟨b, i, none⟩) := hid (fun b i => by rw [← hW1, World.frozen?_setCell])
  have HY := hid (And.intro y0 (And.intro y1 (And.intro s0 s1)))
  obtain ⟨V, hV⟩ : ∃ V, (if r then Value.slice A' n' c' else .slice A n c) = V := ⟨_, rfl⟩
  rw [hV]
  have HV := hid hV
  clear hE0 hs0 f2 f0 hX hr hk q0 q1 q2 r0 r1 y0 y1 s0 s1 hV
  go_enter Try.func50, Try.ntmps50
  go_wp2_with fail
  refine (fails_lit W1 le co pa All A' n' c' X (HX.out.ext HE1.out)).mono ?_
  rintro e w2 ⟨rfl, hx2⟩
  rw [HR.out]
  clear x0 x1 f01 p0 p1 p2 hW0 hW1
  have x0 := hx2.cell HY.out.1
  have x1 := hx2.cell HY.out.2.1
  have r0 := hx2.cell HY.out.2.2.1
  have r1 := hx2.cell HY.out.2.2.2
  have hlt : w.heap.size + 1 + 1 < W1.heap.size := by have := HS1.out; omega
  have hlt2 : w.heap.size + 1 + 1 < w2.heap.size := Nat.lt_of_lt_of_le hlt hx2.size
  have f0 := (hx2.frozen (p := ⟨w.heap.size, 0, none⟩) (by show w.heap.size < _; omega)).trans ((HF1.out _ _).trans (HF0.out 0))
  have g0 := (hx2.frozen (p := ⟨w.heap.size + 1 + 1, 0, none⟩) hlt).trans ((HF1.out _ _).trans (HF2.out 0))
  have g1 := (hx2.frozen (p := ⟨w.heap.size + 1 + 1, 1, none⟩) hlt).trans ((HF1.out _ _).trans (HF2.out 1))
  have HX2 := hid (HE1.out.trans hx2)
  clear hx2 hlt
  cases r with
  | false =>
    obtain rfl : V = .slice A n c := HV.out.symm
    clear HV
    go_wp2
    refine bodyPost_ret (v := .tuple #[.agg #[.slice A n c, .int .i64 ((k : Int) + 1)], .bool false]) (by simp [results, Try.results50, go_sem, World.cell?_setCell_same, World.cell?_setCell_other, r0, r1]) rfl ?_
    exact ⟨(HX2.out.setCell (by simp; omega) _).setCell (by simp; omega) _, rfl⟩
  | true =>
    obtain rfl : V = .slice A' n' c' := HV.out.symm
    clear HV
    go_wp2
    refine bodyPost_ret (v := .tuple #[.agg #[.slice A' n' c', .int .i64 ((k : Int) + 1)], .bool true]) (by simp [results, Try.results50, go_sem, World.cell?_setCell_same, World.cell?_setCell_other, r0, r1, x0, x1]) rfl ?_
    exact ⟨((HX2.out.setCell (by simp) _).setCell (by simp; omega) _).setCell (by simp; omega) _, rfl⟩
end Go.Proofs.Ytcddmggefmfkkaa
