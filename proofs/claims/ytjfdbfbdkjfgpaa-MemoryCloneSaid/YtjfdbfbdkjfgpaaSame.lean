/- One call on both memories: same. -/
import Derived.Test.YtjfdbfbdkjfgpaaFetA
import Derived.Test.YtjfdbfbdkjfgpaaR9H
import Derived.Test.YtjfdbfbdkjfgpaaR9I
import Derived.Test.YtjfdbfbdkjfgpaaMemG
namespace Go.Proofs.Ytjfdbfbdkjfgpaa
open Go.RowKit Go.Deco
set_option linter.unusedSimpArgs false
set_option linter.unusedVariables false

def SameR (w : World) (mb bm : Nat) (l : List Sec) (lv : Value) (S : Nat → Prop) (cs : List (Nat × Nat)) (M : Nat → Option Nat) (n : Nat) (e : Ending) (w' : World) : Prop :=
  w.grownBy w' (some bm) ∧ Mem w' mb bm (regsOf l) M n ∧ ∃ A d, e = .returned (.tuple #[.agg #[.bool true, lv, .slice A cs.length d], .bool true]) ∧ Sl cellR w' (fun b => S b ∨ w.heap.size ≤ b) (.slice A cs.length d) cs
def kindCells (regs : List Reg) (cs : List (Nat × Nat)) (kind q : Int) (a x : Nat) : List (Nat × Nat) := if kind = 2 then storeCells regs cs a q x else cs
def kindMap (regs : List Reg) (M : Nat → Option Nat) (kind q : Int) (a x : Nat) : Nat → Option Nat := if kind = 2 then storeMap regs M a q x else M

theorem new_at (w : World) (cs : List Value) (t : TypeId) (k : Nat) (hk : w.heap.size = k) : ∀ (j : Nat) (u : Value), cs[j]? = some u → (w.alloc (.cells cs.toArray t)).cell? ⟨k, j, none⟩ = some u := by
  intro j u hu
  subst hk
  have h := new_cells w cs t j u hu
  rwa [add_none, Nat.zero_add] at h
theorem new_free (w : World) (cs : List Value) (t : TypeId) (k : Nat) (hk : w.heap.size = k) (j : Nat) : (w.alloc (.cells cs.toArray t)).frozen? ⟨k, j, none⟩ = false := by
  subst hk
  simp
theorem grown_then {w a b : World} {bm : Nat} (h : w.grownBy a (some bm)) (he : Ext a b) : w.grownBy b (some bm) := grownBy_same h (he.grownBy _)
theorem grown_set {w a : World} {bm : Nat} {p : Addr} (h : w.grownBy a (some bm)) (hp : w.heap.size ≤ p.block) (u : Value) : w.grownBy (a.setCell p u) (some bm) :=
  ⟨h.os, h.tape, h.output, by simpa using h.size, fun k hk hne => (Below.heap_setCell _ _ _ _ (by omega)).trans (h.block k hk hne)⟩
set_option maxRecDepth 100000 in
set_option maxHeartbeats 8000000 in
theorem samecall_any (w : World) (mb bm : Nat) (l : List Sec) (h0 : secCheck l = 0) (M : Nat → Option Nat) (nm : Nat) (hm : Mem w mb bm (regsOf l) M nm) (hnm : nm ≤ 1000) (LA : Option Addr) (n c : Nat) (hl : Sl secR w All (.slice LA n c) l)
    (S : Nat → Prop) (CA : Option Addr) (cm cd : Nat) (cs : List (Nat × Nat)) (hc : Sl cellR w S (.slice CA cm cd) cs) (hcm : cm ≤ 1000) (hlook : lookIn cs = M) (hasc : AscC cs) (hkeys : ∀ p ∈ cs, findReg (regsOf l) p.1 ≠ none)
    (kind q : Int) (a x : Nat) (hq1 : -9223372036854775808 ≤ q) (hq2 : q ≤ 9223372036854775807) (ha : a < 4294967296) (hx : x < 4294967296) :
    Calls Try.prog 24 #[.pointer (some ⟨mb, 0, none⟩), .agg #[.bool true, .slice LA n c, .slice CA cm cd], .agg #[.int .i64 kind, .int .i64 q, .int .u32 a, .int .u32 x]] w
      (SameR w mb bm l (.slice LA n c) S (kindCells (regsOf l) cs kind q a x) (kindMap (regsOf l) M kind q a x) (nm + 4)) := by
  have hcl := hc.len
  have hlt := preOf_lt (secs_lt hl) (cells_lt hc)
  obtain ⟨W0, hW0⟩ : ∃ W0, ((w.alloc (Obj.cells #[.bool true, .slice LA n c, .slice CA cm cd] 45)).alloc (Obj.cells #[.int .i64 kind, .int .i64 q, .int .u32 a, .int .u32 x] 25)).alloc (Obj.cells #[.bool false, .slice none 0 0, .slice none 0 0] 45) = W0 := ⟨_, rfl⟩
  have hE : Ext w W0 := by rw [← hW0]; exact (((Ext.refl w).alloc _).alloc _).alloc _
  have b0 : W0.cell? ⟨w.heap.size, 0, none⟩ = some (.bool true) := by rw [← hW0]; exact ((Ext.refl _).alloc _).cell (((Ext.refl _).alloc _).cell (new_at w [.bool true, .slice LA n c, .slice CA cm cd] _ _ rfl 0 _ rfl))
  have b1 : W0.cell? ⟨w.heap.size, 1, none⟩ = some (.slice LA n c) := by rw [← hW0]; exact ((Ext.refl _).alloc _).cell (((Ext.refl _).alloc _).cell (new_at w [.bool true, .slice LA n c, .slice CA cm cd] _ _ rfl 1 _ rfl))
  have b2 : W0.cell? ⟨w.heap.size, 2, none⟩ = some (.slice CA cm cd) := by rw [← hW0]; exact ((Ext.refl _).alloc _).cell (((Ext.refl _).alloc _).cell (new_at w [.bool true, .slice LA n c, .slice CA cm cd] _ _ rfl 2 _ rfl))
  have o0 : W0.cell? ⟨w.heap.size + 1, 0, none⟩ = some (.int .i64 kind) := by rw [← hW0]; exact ((Ext.refl _).alloc _).cell (new_at _ [.int .i64 kind, .int .i64 q, .int .u32 a, .int .u32 x] _ _ (by simp) 0 _ rfl)
  have o1 : W0.cell? ⟨w.heap.size + 1, 1, none⟩ = some (.int .i64 q) := by rw [← hW0]; exact ((Ext.refl _).alloc _).cell (new_at _ [.int .i64 kind, .int .i64 q, .int .u32 a, .int .u32 x] _ _ (by simp) 1 _ rfl)
  have o2 : W0.cell? ⟨w.heap.size + 1, 2, none⟩ = some (.int .u32 a) := by rw [← hW0]; exact ((Ext.refl _).alloc _).cell (new_at _ [.int .i64 kind, .int .i64 q, .int .u32 a, .int .u32 x] _ _ (by simp) 2 _ rfl)
  have o3 : W0.cell? ⟨w.heap.size + 1, 3, none⟩ = some (.int .u32 x) := by rw [← hW0]; exact ((Ext.refl _).alloc _).cell (new_at _ [.int .i64 kind, .int .i64 q, .int .u32 a, .int .u32 x] _ _ (by simp) 3 _ rfl)
  have r0 : W0.cell? ⟨w.heap.size + 2, 0, none⟩ = some (.bool false) := by rw [← hW0]; exact new_at _ [.bool false, .slice none 0 0, .slice none 0 0] _ _ (by simp) 0 _ rfl
  have r1 : W0.cell? ⟨w.heap.size + 2, 1, none⟩ = some (.slice none 0 0) := by rw [← hW0]; exact new_at _ [.bool false, .slice none 0 0, .slice none 0 0] _ _ (by simp) 1 _ rfl
  have r2 : W0.cell? ⟨w.heap.size + 2, 2, none⟩ = some (.slice none 0 0) := by rw [← hW0]; exact new_at _ [.bool false, .slice none 0 0, .slice none 0 0] _ _ (by simp) 2 _ rfl
  have fr : ∀ j, W0.frozen? ⟨w.heap.size + 2, j, none⟩ = false := by intro j; rw [← hW0]; exact new_free _ [.bool false, .slice none 0 0, .slice none 0 0] _ _ (by simp) j
  have HG0 := hid (World.block_lt_of_cell? _ _ r0)
  have HB := hid (And.intro b0 (And.intro b1 b2))
  have HOP := hid (And.intro o0 (And.intro o1 (And.intro o2 o3)))
  have HR := hid (And.intro r0 (And.intro r1 (And.intro r2 fr)))
  have HE := hid hE
  have HM := hid hm
  have HL := hid hl
  have HC := hid hc
  have HCL := hid hcl
  have HLT := hid hlt
  have HLOOK := hid hlook
  have HASC := hid hasc
  have HKEYS := hid hkeys
  have H0 := hid h0
  clear hcl hlt hE b0 b1 b2 o0 o1 o2 o3 r0 r1 r2 fr hm hl hc hlook hasc hkeys h0
  by_cases k1 : kind = 1
  · subst k1
    have HK2 := hid (show ¬ (1 : Int) = 2 by omega)
    obtain ⟨b0, b1, b2⟩ := HB.out
    obtain ⟨o0, o1, o2, o3⟩ := HOP.out
    have b0 := (Ext.refl W0).cell b0
    have b1 := (Ext.refl W0).cell b1
    have b2 := (Ext.refl W0).cell b2
    have o0 := (Ext.refl W0).cell o0
    have o1 := (Ext.refl W0).cell o1
    have o2 := (Ext.refl W0).cell o2
    have o3 := (Ext.refl W0).cell o3
    obtain ⟨r0, r1, r2, fr⟩ := HR.out
    have r0 := (Ext.refl W0).cell r0
    have r1 := (Ext.refl W0).cell r1
    have r2 := (Ext.refl W0).cell r2
    have hgs := World.block_lt_of_cell? _ _ r0
    have f0 := ((Ext.refl W0).frozen (p := ⟨w.heap.size + 2, 0, none⟩) HG0.out).trans (fr 0)
    have f1 := ((Ext.refl W0).frozen (p := ⟨w.heap.size + 2, 1, none⟩) HG0.out).trans (fr 1)
    have f2 := ((Ext.refl W0).frozen (p := ⟨w.heap.size + 2, 2, none⟩) HG0.out).trans (fr 2)
    clear fr
    obtain ⟨y, hy⟩ : ∃ y, loadOf (regsOf l) M a q = y := ⟨_, rfl⟩
    have HY := hid hy
    clear hy
    go_enter Try.func24, Try.ntmps24
    go_wp2_with fail
    clear hW0 b0 b1 b2 o0 o1 o2 o3 r0 r1 r2 f0 f1 f2 hgs
    refine (load_any W0 mb bm nm _ _ (HM.out.ext HE.out) a ha q hq1 hq2).mono ?_
    rintro e w1 ⟨rfl, hx1⟩
    rw [HY.out]
    have HX1 := hid hx1
    clear hx1
    obtain ⟨b0, b1, b2⟩ := HB.out
    obtain ⟨o0, o1, o2, o3⟩ := HOP.out
    have b0 := HX1.out.cell b0
    have b1 := HX1.out.cell b1
    have b2 := HX1.out.cell b2
    have o0 := HX1.out.cell o0
    have o1 := HX1.out.cell o1
    have o2 := HX1.out.cell o2
    have o3 := HX1.out.cell o3
    obtain ⟨r0, r1, r2, fr⟩ := HR.out
    have r0 := HX1.out.cell r0
    have r1 := HX1.out.cell r1
    have r2 := HX1.out.cell r2
    have hgs := World.block_lt_of_cell? _ _ r0
    have f0 := (HX1.out.frozen (p := ⟨w.heap.size + 2, 0, none⟩) HG0.out).trans (fr 0)
    have f1 := (HX1.out.frozen (p := ⟨w.heap.size + 2, 1, none⟩) HG0.out).trans (fr 1)
    have f2 := (HX1.out.frozen (p := ⟨w.heap.size + 2, 2, none⟩) HG0.out).trans (fr 2)
    clear fr
    go_wp2_with fail
    clear b0 b1 b2 o0 o1 o2 o3 r0 r1 r2 f0 f1 f2 hgs
    refine (load9_any w w1 (HE.out.trans HX1.out) LA n c l HL.out H0.out CA cm cd cs HC.out.all HLT.out a ha q hq1 hq2).mono ?_
    rintro e w2 ⟨rfl, hx2⟩
    rw [HLOOK.out, HY.out]
    have HX2 := hid (HX1.out.trans hx2)
    clear hx2
    obtain ⟨b0, b1, b2⟩ := HB.out
    obtain ⟨o0, o1, o2, o3⟩ := HOP.out
    have b0 := HX2.out.cell b0
    have b1 := HX2.out.cell b1
    have b2 := HX2.out.cell b2
    have o0 := HX2.out.cell o0
    have o1 := HX2.out.cell o1
    have o2 := HX2.out.cell o2
    have o3 := HX2.out.cell o3
    obtain ⟨r0, r1, r2, fr⟩ := HR.out
    have r0 := HX2.out.cell r0
    have r1 := HX2.out.cell r1
    have r2 := HX2.out.cell r2
    have hgs := World.block_lt_of_cell? _ _ r0
    have f0 := (HX2.out.frozen (p := ⟨w.heap.size + 2, 0, none⟩) HG0.out).trans (fr 0)
    have f1 := (HX2.out.frozen (p := ⟨w.heap.size + 2, 1, none⟩) HG0.out).trans (fr 1)
    have f2 := (HX2.out.frozen (p := ⟨w.heap.size + 2, 2, none⟩) HG0.out).trans (fr 2)
    clear fr
    have hyy : ((y.1 : Int) == (y.1 : Int)) = true := by simp
    have hyz : ((y.2 : Int) == (y.2 : Int)) = true := by simp
    go_wp2
    refine bodyPost_ret (v := .tuple #[.agg #[.bool true, .slice LA n c, .slice CA cm cd], .bool true]) (by simp [results, Try.results24, go_sem, World.cell?_setCell_same, World.cell?_setCell_other, r0, r1, r2]) rfl ?_
    have hxx : Ext w ((((_ : World).setCell ⟨w.heap.size + 2, 0, none⟩ (.bool true)).setCell ⟨w.heap.size + 2, 1, none⟩ (.slice LA n c)).setCell ⟨w.heap.size + 2, 2, none⟩ (.slice CA cm cd)) := (((HE.out.trans HX2.out).setCell (by simp) _).setCell (by simp) _).setCell (by simp) _
    refine ⟨hxx.grownBy _, ?_, CA, cd, ?_, ?_⟩
    · rw [kindMap, if_neg HK2.out]; exact (HM.out.ext hxx).mono (by omega)
    · rw [kindCells, if_neg HK2.out, ← HCL.out]
    · rw [kindCells, if_neg HK2.out, ← HCL.out]; exact (HC.out.ext hxx).mono (fun b hb _ => .inl hb)
  by_cases k3 : kind = 3
  · subst k3
    have HK2 := hid (show ¬ (3 : Int) = 2 by omega)
    obtain ⟨b0, b1, b2⟩ := HB.out
    obtain ⟨o0, o1, o2, o3⟩ := HOP.out
    have b0 := (Ext.refl W0).cell b0
    have b1 := (Ext.refl W0).cell b1
    have b2 := (Ext.refl W0).cell b2
    have o0 := (Ext.refl W0).cell o0
    have o1 := (Ext.refl W0).cell o1
    have o2 := (Ext.refl W0).cell o2
    have o3 := (Ext.refl W0).cell o3
    obtain ⟨r0, r1, r2, fr⟩ := HR.out
    have r0 := (Ext.refl W0).cell r0
    have r1 := (Ext.refl W0).cell r1
    have r2 := (Ext.refl W0).cell r2
    have hgs := World.block_lt_of_cell? _ _ r0
    have f0 := ((Ext.refl W0).frozen (p := ⟨w.heap.size + 2, 0, none⟩) HG0.out).trans (fr 0)
    have f1 := ((Ext.refl W0).frozen (p := ⟨w.heap.size + 2, 1, none⟩) HG0.out).trans (fr 1)
    have f2 := ((Ext.refl W0).frozen (p := ⟨w.heap.size + 2, 2, none⟩) HG0.out).trans (fr 2)
    clear fr
    obtain ⟨y, hy⟩ : ∃ y, fetchOf (regsOf l) M a = y := ⟨_, rfl⟩
    have HY := hid hy
    clear hy
    go_enter Try.func24, Try.ntmps24
    go_wp2_with fail
    clear hW0 b0 b1 b2 o0 o1 o2 o3 r0 r1 r2 f0 f1 f2 hgs
    refine (fetch_any W0 mb bm nm _ _ (HM.out.ext HE.out) a ha).mono ?_
    rintro e w1 ⟨hx1, v1, rfl, hs1⟩
    rw [HY.out] at hs1
    rw [HY.out]
    have HX1 := hid hx1
    have HS1 := hid hs1
    clear hx1 hs1
    obtain ⟨b0, b1, b2⟩ := HB.out
    obtain ⟨o0, o1, o2, o3⟩ := HOP.out
    have b0 := HX1.out.cell b0
    have b1 := HX1.out.cell b1
    have b2 := HX1.out.cell b2
    have o0 := HX1.out.cell o0
    have o1 := HX1.out.cell o1
    have o2 := HX1.out.cell o2
    have o3 := HX1.out.cell o3
    obtain ⟨r0, r1, r2, fr⟩ := HR.out
    have r0 := HX1.out.cell r0
    have r1 := HX1.out.cell r1
    have r2 := HX1.out.cell r2
    have hgs := World.block_lt_of_cell? _ _ r0
    have f0 := (HX1.out.frozen (p := ⟨w.heap.size + 2, 0, none⟩) HG0.out).trans (fr 0)
    have f1 := (HX1.out.frozen (p := ⟨w.heap.size + 2, 1, none⟩) HG0.out).trans (fr 1)
    have f2 := (HX1.out.frozen (p := ⟨w.heap.size + 2, 2, none⟩) HG0.out).trans (fr 2)
    clear fr
    go_wp2_with fail
    clear b0 b1 b2 o0 o1 o2 o3 r0 r1 r2 f0 f1 f2 hgs
    refine (fetch9_any w w1 (HE.out.trans HX1.out) LA n c l HL.out H0.out CA cm cd cs HC.out.all HLT.out a ha).mono ?_
    rintro e w2 ⟨hx2, v2, rfl, hs2⟩
    rw [HLOOK.out, HY.out] at hs2
    rw [HLOOK.out, HY.out]
    have cv1 := run_str (P := Try.prog) 49 9 5 Try.underlying49 Try.underlying5 Try.underlying9 (HS1.out.ext hx2)
    have cv2 := run_str (P := Try.prog) 49 9 5 Try.underlying49 Try.underlying5 Try.underlying9 hs2
    have HX2 := hid (HX1.out.trans hx2)
    clear hx2 hs2
    obtain ⟨Y, hY⟩ : ∃ Y, strOf y.1 = Y := ⟨_, rfl⟩
    rw [hY] at cv1 cv2
    clear hY
    obtain ⟨b0, b1, b2⟩ := HB.out
    obtain ⟨o0, o1, o2, o3⟩ := HOP.out
    have b0 := HX2.out.cell b0
    have b1 := HX2.out.cell b1
    have b2 := HX2.out.cell b2
    have o0 := HX2.out.cell o0
    have o1 := HX2.out.cell o1
    have o2 := HX2.out.cell o2
    have o3 := HX2.out.cell o3
    obtain ⟨r0, r1, r2, fr⟩ := HR.out
    have r0 := HX2.out.cell r0
    have r1 := HX2.out.cell r1
    have r2 := HX2.out.cell r2
    have hgs := World.block_lt_of_cell? _ _ r0
    have f0 := (HX2.out.frozen (p := ⟨w.heap.size + 2, 0, none⟩) HG0.out).trans (fr 0)
    have f1 := (HX2.out.frozen (p := ⟨w.heap.size + 2, 1, none⟩) HG0.out).trans (fr 1)
    have f2 := (HX2.out.frozen (p := ⟨w.heap.size + 2, 2, none⟩) HG0.out).trans (fr 2)
    clear fr
    have hyy : (Y.toList == Y.toList) = true := by simp
    have hyz : ((y.2 : Int) == (y.2 : Int)) = true := by simp
    go_wp2
    refine bodyPost_ret (v := .tuple #[.agg #[.bool true, .slice LA n c, .slice CA cm cd], .bool true]) (by simp [results, Try.results24, go_sem, World.cell?_setCell_same, World.cell?_setCell_other, r0, r1, r2]) rfl ?_
    have hxx : Ext w ((((_ : World).setCell ⟨w.heap.size + 2, 0, none⟩ (.bool true)).setCell ⟨w.heap.size + 2, 1, none⟩ (.slice LA n c)).setCell ⟨w.heap.size + 2, 2, none⟩ (.slice CA cm cd)) := (((HE.out.trans HX2.out).setCell (by simp) _).setCell (by simp) _).setCell (by simp) _
    refine ⟨hxx.grownBy _, ?_, CA, cd, ?_, ?_⟩
    · rw [kindMap, if_neg HK2.out]; exact (HM.out.ext hxx).mono (by omega)
    · rw [kindCells, if_neg HK2.out, ← HCL.out]
    · rw [kindCells, if_neg HK2.out, ← HCL.out]; exact (HC.out.ext hxx).mono (fun b hb _ => .inl hb)
  by_cases k4 : kind = 4
  · subst k4
    have HK2 := hid (show ¬ (4 : Int) = 2 by omega)
    obtain ⟨b0, b1, b2⟩ := HB.out
    obtain ⟨o0, o1, o2, o3⟩ := HOP.out
    have b0 := (Ext.refl W0).cell b0
    have b1 := (Ext.refl W0).cell b1
    have b2 := (Ext.refl W0).cell b2
    have o0 := (Ext.refl W0).cell o0
    have o1 := (Ext.refl W0).cell o1
    have o2 := (Ext.refl W0).cell o2
    have o3 := (Ext.refl W0).cell o3
    obtain ⟨r0, r1, r2, fr⟩ := HR.out
    have r0 := (Ext.refl W0).cell r0
    have r1 := (Ext.refl W0).cell r1
    have r2 := (Ext.refl W0).cell r2
    have hgs := World.block_lt_of_cell? _ _ r0
    have f0 := ((Ext.refl W0).frozen (p := ⟨w.heap.size + 2, 0, none⟩) HG0.out).trans (fr 0)
    have f1 := ((Ext.refl W0).frozen (p := ⟨w.heap.size + 2, 1, none⟩) HG0.out).trans (fr 1)
    have f2 := ((Ext.refl W0).frozen (p := ⟨w.heap.size + 2, 2, none⟩) HG0.out).trans (fr 2)
    clear fr
    obtain ⟨y, hy⟩ : ∃ y, dumpOf (regsOf l) M a q = y := ⟨_, rfl⟩
    have HY := hid hy
    clear hy
    go_enter Try.func24, Try.ntmps24
    go_wp2_with fail
    clear hW0 b0 b1 b2 o0 o1 o2 o3 r0 r1 r2 f0 f1 f2 hgs
    refine (dump_any W0 mb bm nm _ _ (HM.out.ext HE.out) a ha q hq1 hq2).mono ?_
    rintro e w1 ⟨hx1, v1, rfl, hs1⟩
    rw [HY.out] at hs1
    rw [HY.out]
    have HX1 := hid hx1
    have HS1 := hid hs1
    clear hx1 hs1
    obtain ⟨b0, b1, b2⟩ := HB.out
    obtain ⟨o0, o1, o2, o3⟩ := HOP.out
    have b0 := HX1.out.cell b0
    have b1 := HX1.out.cell b1
    have b2 := HX1.out.cell b2
    have o0 := HX1.out.cell o0
    have o1 := HX1.out.cell o1
    have o2 := HX1.out.cell o2
    have o3 := HX1.out.cell o3
    obtain ⟨r0, r1, r2, fr⟩ := HR.out
    have r0 := HX1.out.cell r0
    have r1 := HX1.out.cell r1
    have r2 := HX1.out.cell r2
    have hgs := World.block_lt_of_cell? _ _ r0
    have f0 := (HX1.out.frozen (p := ⟨w.heap.size + 2, 0, none⟩) HG0.out).trans (fr 0)
    have f1 := (HX1.out.frozen (p := ⟨w.heap.size + 2, 1, none⟩) HG0.out).trans (fr 1)
    have f2 := (HX1.out.frozen (p := ⟨w.heap.size + 2, 2, none⟩) HG0.out).trans (fr 2)
    clear fr
    go_wp2_with fail
    clear b0 b1 b2 o0 o1 o2 o3 r0 r1 r2 f0 f1 f2 hgs
    refine (dump9_any w w1 (HE.out.trans HX1.out) LA n c l HL.out H0.out CA cm cd cs HC.out.all HLT.out a ha q hq1 hq2).mono ?_
    rintro e w2 ⟨hx2, v2, rfl, hs2⟩
    rw [HLOOK.out, HY.out] at hs2
    rw [HLOOK.out, HY.out]
    have cv1 := run_str (P := Try.prog) 49 9 5 Try.underlying49 Try.underlying5 Try.underlying9 (HS1.out.ext hx2)
    have cv2 := run_str (P := Try.prog) 49 9 5 Try.underlying49 Try.underlying5 Try.underlying9 hs2
    have HX2 := hid (HX1.out.trans hx2)
    clear hx2 hs2
    obtain ⟨Y, hY⟩ : ∃ Y, strOf y.1 = Y := ⟨_, rfl⟩
    rw [hY] at cv1 cv2
    clear hY
    obtain ⟨b0, b1, b2⟩ := HB.out
    obtain ⟨o0, o1, o2, o3⟩ := HOP.out
    have b0 := HX2.out.cell b0
    have b1 := HX2.out.cell b1
    have b2 := HX2.out.cell b2
    have o0 := HX2.out.cell o0
    have o1 := HX2.out.cell o1
    have o2 := HX2.out.cell o2
    have o3 := HX2.out.cell o3
    obtain ⟨r0, r1, r2, fr⟩ := HR.out
    have r0 := HX2.out.cell r0
    have r1 := HX2.out.cell r1
    have r2 := HX2.out.cell r2
    have hgs := World.block_lt_of_cell? _ _ r0
    have f0 := (HX2.out.frozen (p := ⟨w.heap.size + 2, 0, none⟩) HG0.out).trans (fr 0)
    have f1 := (HX2.out.frozen (p := ⟨w.heap.size + 2, 1, none⟩) HG0.out).trans (fr 1)
    have f2 := (HX2.out.frozen (p := ⟨w.heap.size + 2, 2, none⟩) HG0.out).trans (fr 2)
    clear fr
    have hyy : (Y.toList == Y.toList) = true := by simp
    have hyz : ((y.2 : Int) == (y.2 : Int)) = true := by simp
    go_wp2
    refine bodyPost_ret (v := .tuple #[.agg #[.bool true, .slice LA n c, .slice CA cm cd], .bool true]) (by simp [results, Try.results24, go_sem, World.cell?_setCell_same, World.cell?_setCell_other, r0, r1, r2]) rfl ?_
    have hxx : Ext w ((((_ : World).setCell ⟨w.heap.size + 2, 0, none⟩ (.bool true)).setCell ⟨w.heap.size + 2, 1, none⟩ (.slice LA n c)).setCell ⟨w.heap.size + 2, 2, none⟩ (.slice CA cm cd)) := (((HE.out.trans HX2.out).setCell (by simp) _).setCell (by simp) _).setCell (by simp) _
    refine ⟨hxx.grownBy _, ?_, CA, cd, ?_, ?_⟩
    · rw [kindMap, if_neg HK2.out]; exact (HM.out.ext hxx).mono (by omega)
    · rw [kindCells, if_neg HK2.out, ← HCL.out]
    · rw [kindCells, if_neg HK2.out, ← HCL.out]; exact (HC.out.ext hxx).mono (fun b hb _ => .inl hb)
  by_cases k5 : kind = 5
  · subst k5
    have HK2 := hid (show ¬ (5 : Int) = 2 by omega)
    obtain ⟨b0, b1, b2⟩ := HB.out
    obtain ⟨o0, o1, o2, o3⟩ := HOP.out
    have b0 := (Ext.refl W0).cell b0
    have b1 := (Ext.refl W0).cell b1
    have b2 := (Ext.refl W0).cell b2
    have o0 := (Ext.refl W0).cell o0
    have o1 := (Ext.refl W0).cell o1
    have o2 := (Ext.refl W0).cell o2
    have o3 := (Ext.refl W0).cell o3
    obtain ⟨r0, r1, r2, fr⟩ := HR.out
    have r0 := (Ext.refl W0).cell r0
    have r1 := (Ext.refl W0).cell r1
    have r2 := (Ext.refl W0).cell r2
    have hgs := World.block_lt_of_cell? _ _ r0
    have f0 := ((Ext.refl W0).frozen (p := ⟨w.heap.size + 2, 0, none⟩) HG0.out).trans (fr 0)
    have f1 := ((Ext.refl W0).frozen (p := ⟨w.heap.size + 2, 1, none⟩) HG0.out).trans (fr 1)
    have f2 := ((Ext.refl W0).frozen (p := ⟨w.heap.size + 2, 2, none⟩) HG0.out).trans (fr 2)
    clear fr
    go_enter Try.func24, Try.ntmps24
    go_wp2_with fail
    clear hW0 o0 o1 o2 o3 r0 r1 r2 f0 f1 f2 hgs
    refine wp_region_held_drew (S := (fun w' => w'.cell? ⟨w.heap.size, 0, none⟩ = some (.bool true) ∧ w'.cell? ⟨w.heap.size, 1, none⟩ = some (.slice LA n c) ∧ w'.cell? ⟨w.heap.size, 2, none⟩ = some (.slice CA cm cd))) (by kernel_rfl) ⟨b0, b1, b2⟩ (fun hSR0 => ?_)
    refine wpAnyH_takeL (i := 0) (v := ?Rv0) rfl (by kernel_rfl) (by kernel_rfl) (by kernel_rfl) (fun _ _ _ h => h) (Or.inl ⟨by rfl, ?Ry0⟩) (by assumption) ?Rr0
    case Ry0 => first | (intro w hSw; (try dsimp only at hSw); go_simp; done) | (intro w hSw; (try dsimp only at hSw); go_simp; with_reducible rfl)
    case' Rr0 => try simp only [Act.put, List.setIfInBounds_toArray, List.set_cons_zero, List.set_cons_succ]
    refine wpAnyH_takeL (i := 1) (v := ?Rv1) rfl (by kernel_rfl) (by kernel_rfl) (by kernel_rfl) (fun _ _ _ h => h) (Or.inl ⟨by rfl, ?Ry1⟩) (by assumption) ?Rr1
    case Ry1 => first | (intro w hSw; (try dsimp only at hSw); go_simp; done) | (intro w hSw; (try dsimp only at hSw); go_simp; with_reducible rfl)
    case' Rr1 => try simp only [Act.put, List.setIfInBounds_toArray, List.set_cons_zero, List.set_cons_succ]
    refine wpAnyH_takeL (i := 3) (v := ?Rv3) rfl (by kernel_rfl) (by kernel_rfl) (by kernel_rfl) (fun _ _ _ h => h) (Or.inl ⟨by rfl, ?Ry3⟩) (by assumption) ?Rr3
    case Ry3 => first | (intro w hSw; (try dsimp only at hSw); go_simp; done) | (intro w hSw; (try dsimp only at hSw); go_simp; with_reducible rfl)
    case' Rr3 => try simp only [Act.put, List.setIfInBounds_toArray, List.set_cons_zero, List.set_cons_succ]
    refine wpAnyH_ready (rs := [2]) (by kernel_rfl) (by simp) ?_
    refine AllReadyH.consL rfl (fun K hK => ?_) AllReadyH.nil
    go_simp
    go_at_call 15
    refine (changes_any _ mb bm nm _ _ (HM.out.ext HE.out.drew)).mono ?_
    rintro e w1 ⟨hx1, v, C, rfl, hs1, hp1, hm1⟩
    obtain ⟨cA, dC, rfl, -, -⟩ := hs1.form
    have HX1 := hid hx1.drew_left
    have HS1 := hid hs1
    have HP1 := hid hp1
    have HM1 := hid hm1
    clear hx1 hs1 hp1 hm1
    refine hK.out _ _ ⟨HX1.out.cell b0, HX1.out.cell b1, HX1.out.cell b2⟩ (fun hSR1 => ?_)
    clear hK K
    try simp only [Act.put, List.setIfInBounds_toArray, List.set_cons_zero, List.set_cons_succ]
    refine wpAnyH_ready (rs := [4]) (by kernel_rfl) (by simp) ?_
    refine AllReadyH.consL rfl (fun K hK => ?_) AllReadyH.nil
    go_simp
    go_at_call 25
    refine (changes9_any w w1 (HE.out.trans HX1.out) LA n c l HL.out H0.out CA cm cd cs HC.out.all (by omega)).mono ?_
    rintro e w2 ⟨hx2, A2, c2, rfl, hs2⟩
    have hCL : chgCells (regsOf l) cs = C := (asc_ext HP1.out (chgCells_asc HASC.out) (fun a => by rw [HM1.out, ← HLOOK.out]; exact (chgCells_mem HASC.out HKEYS.out a).symm)).symm
    rw [hCL] at hs2
    rw [hCL]
    have HX2 := hid (HX1.out.trans hx2)
    have HS12 := hid (HS1.out.ext hx2)
    have HS2 := hid hs2
    clear hCL hx2 hs2
    refine hK.out _ _ ⟨HX2.out.cell b0, HX2.out.cell b1, HX2.out.cell b2⟩ (fun hSR2 => ?_)
    clear hK K
    try simp only [Act.put, List.setIfInBounds_toArray, List.set_cons_zero, List.set_cons_succ]
    refine wpAnyH_ready (rs := [5]) (by kernel_rfl) (by simp) ?_
    refine AllReadyH.consL rfl (fun K hK => ?_) AllReadyH.nil
    go_simp
    go_at_call 18
    refine (words_any w2 w2 (Ext.refl _) cA A2 C.length C.length dC c2 C C HS12.out HS2.out).mono ?_
    rintro e w3 ⟨rfl, hx3⟩
    rw [show decide (C = C) = true by simp]
    have HX3 := hid (HX2.out.trans hx3)
    clear hx3
    refine hK.out _ _ ⟨HX3.out.cell b0, HX3.out.cell b1, HX3.out.cell b2⟩ (fun hSR3 => ?_)
    clear hK K
    try simp only [Act.put, List.setIfInBounds_toArray, List.set_cons_zero, List.set_cons_succ]
    refine wpAnyH_ready (rs := [6]) (by kernel_rfl) (by simp) ?_
    refine AllReadyH.consL rfl (fun K hK => ?_) AllReadyH.nil
    obtain ⟨r0, r1, r2, fr⟩ := HR.out
    have r0 := HX3.out.cell r0
    have r1 := HX3.out.cell r1
    have r2 := HX3.out.cell r2
    have hgs := World.block_lt_of_cell? _ _ r0
    have f0 := (HX3.out.frozen (p := ⟨w.heap.size + 2, 0, none⟩) HG0.out).trans (fr 0)
    have f1 := (HX3.out.frozen (p := ⟨w.heap.size + 2, 1, none⟩) HG0.out).trans (fr 1)
    have f2 := (HX3.out.frozen (p := ⟨w.heap.size + 2, 2, none⟩) HG0.out).trans (fr 2)
    clear fr
    have b0' := HX3.out.cell b0
    have b1' := HX3.out.cell b1
    have b2' := HX3.out.cell b2
    go_simp
    refine hK.out _ _ ⟨by simp [World.cell?_setCell_other, b0'], by simp [World.cell?_setCell_other, b1'], by simp [World.cell?_setCell_other, b2']⟩ (fun hSR4 => ?_)
    clear hK K
    try simp only [Act.put, List.setIfInBounds_toArray, List.set_cons_zero, List.set_cons_succ]
    refine wpAnyH_takeL (i := 7) (v := ?Rv7) rfl (by kernel_rfl) (by kernel_rfl) (by kernel_rfl) (fun _ _ _ h => h) (Or.inl ⟨by rfl, ?Ry7⟩) (by assumption) ?Rr7
    case Ry7 => first | (intro w hSw; (try dsimp only at hSw); go_simp; done) | (intro w hSw; (try dsimp only at hSw); go_simp; with_reducible rfl)
    case' Rr7 => try simp only [Act.put, List.setIfInBounds_toArray, List.set_cons_zero, List.set_cons_succ]
    refine wpAnyH_done (by kernel_rfl) ?_ _
    go_wp2
    refine bodyPost_ret (v := .tuple #[.agg #[.bool true, .slice LA n c, .slice CA cm cd], .bool true]) (by simp [results, Try.results24, go_sem, World.cell?_setCell_same, World.cell?_setCell_other, r0, r1, r2]) rfl ?_
    have hxx : Ext w ((((_ : World).setCell ⟨w.heap.size + 2, 0, none⟩ (.bool true)).setCell ⟨w.heap.size + 2, 1, none⟩ (.slice LA n c)).setCell ⟨w.heap.size + 2, 2, none⟩ (.slice CA cm cd)) := (((HE.out.trans HX3.out).setCell (by simp) _).setCell (by simp) _).setCell (by simp) _
    refine ⟨hxx.grownBy _, ?_, CA, cd, ?_, ?_⟩
    · rw [kindMap, if_neg HK2.out]; exact (HM.out.ext hxx).mono (by omega)
    · rw [kindCells, if_neg HK2.out, ← HCL.out]
    · rw [kindCells, if_neg HK2.out, ← HCL.out]; exact (HC.out.ext hxx).mono (fun b hb _ => .inl hb)
  by_cases k2 : kind = 2
  · subst k2
    obtain ⟨b0, b1, b2⟩ := HB.out
    obtain ⟨o0, o1, o2, o3⟩ := HOP.out
    have b0 := (Ext.refl W0).cell b0
    have b1 := (Ext.refl W0).cell b1
    have b2 := (Ext.refl W0).cell b2
    have o0 := (Ext.refl W0).cell o0
    have o1 := (Ext.refl W0).cell o1
    have o2 := (Ext.refl W0).cell o2
    have o3 := (Ext.refl W0).cell o3
    obtain ⟨r0, r1, r2, fr⟩ := HR.out
    have r0 := (Ext.refl W0).cell r0
    have r1 := (Ext.refl W0).cell r1
    have r2 := (Ext.refl W0).cell r2
    have hgs := World.block_lt_of_cell? _ _ r0
    have f0 := ((Ext.refl W0).frozen (p := ⟨w.heap.size + 2, 0, none⟩) HG0.out).trans (fr 0)
    have f1 := ((Ext.refl W0).frozen (p := ⟨w.heap.size + 2, 1, none⟩) HG0.out).trans (fr 1)
    have f2 := ((Ext.refl W0).frozen (p := ⟨w.heap.size + 2, 2, none⟩) HG0.out).trans (fr 2)
    clear fr
    go_enter Try.func24, Try.ntmps24
    go_wp2_with fail
    clear hW0 b0 b1 b2 o0 o1 o2 o3 r0 r1 r2 f0 f1 f2 hgs
    have hbm : bm < w.heap.size := by obtain ⟨_, _, _, _, _, _, ho, _⟩ := HM.out; exact ho.lt
    refine (store_any W0 mb bm nm _ _ (HM.out.ext HE.out) (by omega) a ha q hq1 hq2 x).mono ?_
    rintro e w1 ⟨rfl, hm1, hg1⟩
    obtain ⟨er, her⟩ : ∃ er, storeErr (regsOf l) a q = er := ⟨_, rfl⟩
    rw [her]
    have HER := hid her
    have hown := (HM.out.ext HE.out)
    obtain ⟨_, _, D, -, -, -, hown, -⟩ := hown
    have HM1 := hid hm1
    have HG1 := hid hg1
    have HL1 := hid ((HL.out.ext HE.out).keep (w' := w1) (fun b _ hb => keep_map hown hg1 hb))
    have HC1 := hid (((HC.out.mono (S' := fun b => S b ∧ b < w.heap.size) (fun b hs hb => ⟨hs, hb.lt⟩)).ext HE.out).keep (w' := w1) (fun b _ hb => keep_map hown hg1 hb))
    obtain ⟨b0, b1, b2⟩ := HB.out
    obtain ⟨o0, o1, o2, o3⟩ := HOP.out
    have b0 := cell_map hown hg1 b0
    have b1 := cell_map hown hg1 b1
    have b2 := cell_map hown hg1 b2
    have o1 := cell_map hown hg1 o1
    have o2 := cell_map hown hg1 o2
    have o3 := cell_map hown hg1 o3
    obtain ⟨r0, r1, r2, fr⟩ := HR.out
    have r0 := cell_map hown hg1 r0
    have r1 := cell_map hown hg1 r1
    have r2 := cell_map hown hg1 r2
    have fr1 : ∀ j, w1.frozen? ⟨w.heap.size + 2, j, none⟩ = false := fun j => (World.frozen?_of_block (hg1.block _ HG0.out (by simp; omega))).trans (fr j)
    have HR1 := hid (And.intro r0 (And.intro r1 (And.intro r2 fr1)))
    have hg1lt : w.heap.size + 2 < w1.heap.size := Nat.lt_of_lt_of_le HG0.out hg1.size
    clear her hm1 hg1 hown o0 r0 r1 r2 fr fr1
    go_wp2_with fail
    refine (store9_any w1 w1 (Ext.refl _) LA n c l HL1.out H0.out CA cm cd cs (fun b => S b ∧ b < w.heap.size) HC1.out (by omega) a ha q hq1 hq2 x hx).mono ?_
    rintro e w2 ⟨hx2, A2, d2, rfl, hC2⟩
    rw [HER.out]
    obtain ⟨CS, hCS⟩ : ∃ CS, storeCells (regsOf l) cs a q x = CS := ⟨_, rfl⟩
    rw [hCS] at hC2
    rw [hCS]
    have HCS := hid hCS
    have HX2 := hid hx2
    have HC2 := hid hC2
    clear hCS hx2 hC2 b0 b1 b2 o1 o2 o3
    obtain ⟨r0, r1, r2, fr⟩ := HR1.out
    have r0 := HX2.out.cell r0
    have r1 := HX2.out.cell r1
    have r2 := HX2.out.cell r2
    have hgs := World.block_lt_of_cell? _ _ r0
    have f0 := (HX2.out.frozen (p := ⟨w.heap.size + 2, 0, none⟩) hg1lt).trans (fr 0)
    have f1 := (HX2.out.frozen (p := ⟨w.heap.size + 2, 1, none⟩) hg1lt).trans (fr 1)
    have f2 := (HX2.out.frozen (p := ⟨w.heap.size + 2, 2, none⟩) hg1lt).trans (fr 2)
    clear fr
    have hee : ((er : Int) == (er : Int)) = true := by simp
    go_wp2
    obtain ⟨W2, hW2⟩ : ∃ W2, ((w2.setCell ⟨w.heap.size + 1 + 1, 0, none⟩ (.bool true)).setCell ⟨w.heap.size + 1 + 1, 1, none⟩ (.slice LA n c)).setCell ⟨w.heap.size + 1 + 1, 2, none⟩ (.slice A2 CS.length d2) = W2 := ⟨_, rfl⟩
    have c0 : W2.cell? ⟨w.heap.size + 1 + 1, 0, none⟩ = some (.bool true) := by rw [← hW2]; simp [World.cell?_setCell_same, World.cell?_setCell_other, r0]
    have c1 : W2.cell? ⟨w.heap.size + 1 + 1, 1, none⟩ = some (.slice LA n c) := by rw [← hW2]; simp [World.cell?_setCell_same, World.cell?_setCell_other, r1]
    have c2 : W2.cell? ⟨w.heap.size + 1 + 1, 2, none⟩ = some (.slice A2 CS.length d2) := by rw [← hW2]; simp [World.cell?_setCell_same, World.cell?_setCell_other, r2]
    have hgr : w.grownBy W2 (some bm) := by
      rw [← hW2]
      exact grown_set (grown_set (grown_set (grown_then (grownBy_same (HE.out.grownBy _) HG1.out) HX2.out) (by simp; omega) _) (by simp; omega) _) (by simp; omega) _
    have hb2 : ∀ b, b ≠ w.heap.size + 2 → W2.heap[b]? = w2.heap[b]? := fun b hb => by rw [← hW2, Below.heap_setCell _ _ _ _ (by simpa using hb), Below.heap_setCell _ _ _ _ (by simpa using hb), Below.heap_setCell _ _ _ _ (by simpa using hb)]
    have hg2 : w1.grownBy W2 (some (w.heap.size + 2)) := by
      rw [← hW2]
      exact grownBy_same (grownBy_same (grownBy_same (HX2.out.grownBy _) (grownBy_set _ _ _)) (grownBy_set _ _ _)) (grownBy_set _ _ _)
    have hm2 : Mem W2 mb bm (regsOf l) (storeMap (regsOf l) M a q x) (nm + 4) := MemAt.set HM.out HM1.out (fun b hb hne => hgr.block b hb (by simpa using hne)) hg2 (by omega)
    have hc2 := (HC2.out.keep (w' := W2) (fun b hb _ => hb2 b (by omega))).mono (S' := fun b => S b ∨ w.heap.size ≤ b) (fun b hb _ => by
      rcases hb with h | h
      · exact .inl h.1
      · exact .inr (by omega))
    rw [hW2]
    have HCC := hid (And.intro c0 (And.intro c1 c2))
    have HMM := hid hm2
    have HGR := hid hgr
    have HC22 := hid hc2
    clear hW2 hgr hb2 hg2 hm2 hc2
    have d0 := ((Ext.refl W2).alloc (Obj.cells #[.bool true, .slice LA n c, .slice A2 CS.length d2] 45)).cell c0
    have d1 := ((Ext.refl W2).alloc (Obj.cells #[.bool true, .slice LA n c, .slice A2 CS.length d2] 45)).cell c1
    have d2' := ((Ext.refl W2).alloc (Obj.cells #[.bool true, .slice LA n c, .slice A2 CS.length d2] 45)).cell c2
    refine bodyPost_ret (v := .tuple #[.agg #[.bool true, .slice LA n c, .slice A2 CS.length d2], .bool true]) (by simp [results, Try.results24, go_sem, d0, d1, d2']) rfl ?_
    refine ⟨grown_then HGR.out ((Ext.refl W2).alloc _), ?_, A2, d2, ?_, ?_⟩
    · rw [kindMap, if_pos rfl]; exact HMM.out.ext ((Ext.refl W2).alloc _)
    · rw [kindCells, if_pos rfl, HCS.out]
    · rw [kindCells, if_pos rfl, HCS.out]; exact HC22.out.ext ((Ext.refl W2).alloc _)
  · have HK2 := hid k2
    have i1 : (kind == 1) = false := by simpa using k1
    have i2 : (kind == 2) = false := by simpa using k2
    have i3 : (kind == 3) = false := by simpa using k3
    have i4 : (kind == 4) = false := by simpa using k4
    have i5 : (kind == 5) = false := by simpa using k5
    clear k1 k2 k3 k4 k5
    have HX2 := hid (Ext.refl W0)
    obtain ⟨b0, b1, b2⟩ := HB.out
    obtain ⟨o0, o1, o2, o3⟩ := HOP.out
    have b0 := (Ext.refl W0).cell b0
    have b1 := (Ext.refl W0).cell b1
    have b2 := (Ext.refl W0).cell b2
    have o0 := (Ext.refl W0).cell o0
    have o1 := (Ext.refl W0).cell o1
    have o2 := (Ext.refl W0).cell o2
    have o3 := (Ext.refl W0).cell o3
    obtain ⟨r0, r1, r2, fr⟩ := HR.out
    have r0 := (Ext.refl W0).cell r0
    have r1 := (Ext.refl W0).cell r1
    have r2 := (Ext.refl W0).cell r2
    have hgs := World.block_lt_of_cell? _ _ r0
    have f0 := ((Ext.refl W0).frozen (p := ⟨w.heap.size + 2, 0, none⟩) HG0.out).trans (fr 0)
    have f1 := ((Ext.refl W0).frozen (p := ⟨w.heap.size + 2, 1, none⟩) HG0.out).trans (fr 1)
    have f2 := ((Ext.refl W0).frozen (p := ⟨w.heap.size + 2, 2, none⟩) HG0.out).trans (fr 2)
    clear fr
    go_enter Try.func24, Try.ntmps24
    go_wp2
    refine bodyPost_ret (v := .tuple #[.agg #[.bool true, .slice LA n c, .slice CA cm cd], .bool true]) (by simp [results, Try.results24, go_sem, World.cell?_setCell_same, World.cell?_setCell_other, r0, r1, r2]) rfl ?_
    have hxx : Ext w ((((_ : World).setCell ⟨w.heap.size + 2, 0, none⟩ (.bool true)).setCell ⟨w.heap.size + 2, 1, none⟩ (.slice LA n c)).setCell ⟨w.heap.size + 2, 2, none⟩ (.slice CA cm cd)) := (((HE.out.trans HX2.out).setCell (by simp) _).setCell (by simp) _).setCell (by simp) _
    refine ⟨hxx.grownBy _, ?_, CA, cd, ?_, ?_⟩
    · rw [kindMap, if_neg HK2.out]; exact (HM.out.ext hxx).mono (by omega)
    · rw [kindCells, if_neg HK2.out, ← HCL.out]
    · rw [kindCells, if_neg HK2.out, ← HCL.out]; exact (HC.out.ext hxx).mono (fun b hb _ => .inl hb)
end Go.Proofs.Ytjfdbfbdkjfgpaa
