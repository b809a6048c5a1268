/- The reference's memory: isWidth, New, Store. -/
import Derived.Test.YtjfdbfbdkjfgpaaR9D
namespace Go.Proofs.Ytjfdbfbdkjfgpaa
open Go.RowKit Go.Deco
set_option linter.unusedSimpArgs false
set_option linter.unusedVariables false

set_option maxRecDepth 100000 in
set_option maxHeartbeats 400000 in
theorem isWidth9_any (w : World) (q : Int) : Calls Try.prog 37 #[.int .i64 q] w (BoolSame w (okWidth q)) := by
  go_enter Try.func37, Try.ntmps37
  go_wp2
  all_goals
    go_ret
    first
      | exact ⟨rfl, rfl⟩
      | exact ⟨ret_bool (by simp_all [okWidth]), rfl⟩

def NewR (w : World) (l : List Sec) (e : Ending) (w' : World) : Prop :=
  Ext w w' ∧ ((secCheck l ≠ 0 ∧ e = .returned (.tuple #[.agg #[.bool false, .slice none 0 0, .slice none 0 0], .int .i64 (secCheck l : Nat)])) ∨
    (secCheck l = 0 ∧ ∃ A c, e = .returned (.tuple #[.agg #[.bool true, .slice A l.length c, .slice none 0 0], .int .i64 0]) ∧ Sl secR w' All (.slice A l.length c) l))

theorem secCheck_le {l : List Sec} (h : secCheck l = 0) : l.length ≤ 16 := by
  rcases Nat.lt_or_ge 16 l.length with h1 | h1
  · rw [secCheck_many h1] at h
    cases h
  · exact h1

set_option maxRecDepth 100000 in
set_option maxHeartbeats 1000000 in
theorem new9_any (w : World) (A : Option Addr) (n c : Nat) (l : List Sec) (hl : Sl secR w All (.slice A n c) l) :
    Calls Try.prog 19 #[.slice A n c] w (NewR w l) := by
  have HS := hid hl; clear hl
  obtain ⟨W0, hW0⟩ : ∃ W0, w.alloc (Obj.cells #[.bool false, .slice none 0 0, .slice none 0 0] 45) = W0 := ⟨_, rfl⟩
  have hE : Ext w W0 := by rw [← hW0]; exact (Ext.refl w).alloc _
  have r0 : W0.cell? ⟨w.heap.size, 0, none⟩ = some (.bool false) := by rw [← hW0]; simp
  have r1 : W0.cell? ⟨w.heap.size, 1, none⟩ = some (.slice none 0 0) := by rw [← hW0]; simp
  have r2 : W0.cell? ⟨w.heap.size, 2, none⟩ = some (.slice none 0 0) := by rw [← hW0]; simp
  have fr : ∀ j, W0.frozen? ⟨w.heap.size, j, none⟩ = false := by intro j; rw [← hW0]; simp
  have hsz : W0.heap.size = w.heap.size + 1 := by rw [← hW0]; simp
  have HE := hid hE; clear hE
  have HR := hid (And.intro r0 (And.intro r1 (And.intro r2 fr)))
  have HSZ := hid hsz
  clear r0 r1 r2 fr hsz
  go_enter Try.func19, Try.ntmps19
  go_wp2_with fail
  clear hW0
  refine (check5_any W0 A n c l (HS.out.ext HE.out)).mono ?_
  rintro e w1 ⟨rfl, hx1⟩
  have HX1 := hid hx1; clear hx1
  by_cases h0 : secCheck l = 0
  · have HSC := hid h0
    rw [h0]
    clear h0
    go_wp2_with fail
    refine (copies5_any w1 A n c l (HS.out.ext (HE.out.trans HX1.out)) (by rw [HS.out.len]; exact secCheck_le HSC.out) (fun s hs => by obtain ⟨k, hk, rfl⟩ := List.getElem_of_mem hs; exact (secCheck_zero (List.getElem?_eq_getElem hk) HSC.out).1)).mono ?_
    rintro e w2 ⟨hx2, A2, c2, rfl, hs2⟩
    have HX2 := hid (HX1.out.trans hx2)
    have HS2 := hid hs2
    have hsz1 : w.heap.size < w1.heap.size := by have := HSZ.out; have := HX1.out.size; omega
    have HSZ1 := hid hsz1
    clear hx2 hs2 hsz1
    obtain ⟨r0, r1, r2, fr⟩ := HR.out
    have r0 := HX2.out.cell r0
    have r1 := HX2.out.cell r1
    have r2 := HX2.out.cell r2
    have f0 := (HX2.out.frozen (p := ⟨w.heap.size, 0, none⟩) (by have := HSZ.out; simp; omega)).trans (fr 0)
    have f1 := (HX2.out.frozen (p := ⟨w.heap.size, 1, none⟩) (by have := HSZ.out; simp; omega)).trans (fr 1)
    have f2 := (HX2.out.frozen (p := ⟨w.heap.size, 2, none⟩) (by have := HSZ.out; simp; omega)).trans (fr 2)
    clear fr
    go_wp2
    refine bodyPost_ret (v := .tuple #[.agg #[.bool true, .slice A2 l.length c2, .slice none 0 0], .int .i64 0]) (by simp [results, Try.results19, go_sem, World.cell?_setCell_same, World.cell?_setCell_other, r0, r1, r2]) rfl ?_
    refine ⟨(((HE.out.trans HX2.out).setCell (by simp) _).setCell (by simp) _).setCell (by simp) _, .inr ⟨HSC.out, A2, c2, rfl, ?_⟩⟩
    refine (HS2.out.keep fun b hb _ => ?_).all
    have := HSZ1.out
    rw [Below.heap_setCell _ _ _ _ (by simp; omega), Below.heap_setCell _ _ _ _ (by simp; omega), Below.heap_setCell _ _ _ _ (by simp; omega)]
  · obtain ⟨er, her⟩ : ∃ er, secCheck l = er := ⟨_, rfl⟩
    rw [her] at h0
    rw [her]
    have HER := hid her; clear her
    have h1 : ((er : Int) != 0) = true := by simpa using h0
    obtain ⟨r0, r1, r2, fr⟩ := HR.out
    have r0 := HX1.out.cell r0
    have r1 := HX1.out.cell r1
    have r2 := HX1.out.cell r2
    have f0 := (HX1.out.frozen (p := ⟨w.heap.size, 0, none⟩) (by have := HSZ.out; simp; omega)).trans (fr 0)
    have f1 := (HX1.out.frozen (p := ⟨w.heap.size, 1, none⟩) (by have := HSZ.out; simp; omega)).trans (fr 1)
    have f2 := (HX1.out.frozen (p := ⟨w.heap.size, 2, none⟩) (by have := HSZ.out; simp; omega)).trans (fr 2)
    clear fr
    go_wp2
    refine bodyPost_ret (v := .tuple #[.agg #[.bool false, .slice none 0 0, .slice none 0 0], .int .i64 er]) (by simp [results, Try.results19, go_sem, World.cell?_setCell_same, World.cell?_setCell_other, r0, r1, r2]) rfl ?_
    exact ⟨(((HE.out.trans HX1.out).setCell (by simp) _).setCell (by simp) _).setCell (by simp) _, .inl ⟨by rw [HER.out]; exact h0, by rw [HER.out]⟩⟩

/-- Bytes written one behind the other. -/
def insMany (cs : List (Nat × Nat)) (a x : Nat) : Nat → List (Nat × Nat)
  | 0 => cs
  | k + 1 => insCell (insMany cs a x k) (a + k) (x / 256 ^ k % 256)
theorem insMany_asc {cs : List (Nat × Nat)} (h : AscC cs) (a x : Nat) : ∀ k, AscC (insMany cs a x k)
  | 0 => h
  | k + 1 => insCell_asc (insMany_asc h a x k)
theorem insMany_look {cs : List (Nat × Nat)} (h : AscC cs) (a x : Nat) : ∀ k, lookIn (insMany cs a x k) = setBytes (lookIn cs) a x k
  | 0 => rfl
  | k + 1 => by
    funext j
    show lookIn (insCell (insMany cs a x k) (a + k) (x / 256 ^ k % 256)) j = (if j = a + k then some (x / 256 ^ k % 256) else setBytes (lookIn cs) a x k j)
    rw [lookIn_ins (insMany_asc h a x k), insMany_look h a x k]
theorem insMany_length (cs : List (Nat × Nat)) (a x : Nat) : ∀ k, (insMany cs a x k).length ≤ cs.length + k
  | 0 => by simp [insMany]
  | k + 1 => by
    have := insMany_length cs a x k
    have := insCell_length (insMany cs a x k) (a + k) (x / 256 ^ k % 256)
    show (insCell _ _ _).length ≤ _
    omega
theorem insMany_mem (cs : List (Nat × Nat)) (a x : Nat) : ∀ k (p : Nat × Nat), p ∈ insMany cs a x k → p ∈ cs ∨ a ≤ p.1 ∧ p.1 < a + k
  | 0, p, h => .inl h
  | k + 1, p, h => by
    rcases insCell_mem (cs := insMany cs a x k) h with rfl | h
    · exact .inr ⟨by simp, by show a + k < a + (k + 1); omega⟩
    · rcases insMany_mem cs a x k p h with h | h
      · exact .inl h
      · exact .inr ⟨h.1, by omega⟩
def storeCells (regs : List Reg) (cs : List (Nat × Nat)) (a : Nat) (q : Int) (x : Nat) : List (Nat × Nat) := if storeErr regs a q = 0 then insMany cs a x q.toNat else cs
theorem storeCells_look {regs : List Reg} {cs : List (Nat × Nat)} (h : AscC cs) (a : Nat) (q : Int) (x : Nat) : lookIn (storeCells regs cs a q x) = storeMap regs (lookIn cs) a q x := by
  unfold storeCells storeMap
  split
  · exact insMany_look h a x _
  · rfl
theorem room_mapped {regs : List Reg} {a q : Nat} (hq : 0 < q) : (roomOf regs a < q ↔ mappedReg regs a q = none) := by
  unfold roomOf mappedReg
  cases findReg regs a with
  | none => simp; exact hq
  | some r => simp
end Go.Proofs.Ytjfdbfbdkjfgpaa
