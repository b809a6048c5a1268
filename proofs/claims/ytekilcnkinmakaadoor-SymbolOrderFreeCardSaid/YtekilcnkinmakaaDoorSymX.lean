/- The example of the chapter on symbols; few. -/
import Derived.Test.YtekilcnkinmakaaDoorSymF
import Derived.Test.YtekilcnkinmakaaDoorSymG
import Derived.Test.YtekilcnkinmakaaDoorLawB
import Derived.Test.YtekilcnkinmakaaDoorLit
namespace Go.Proofs.YtekilcnkinmakaaDoor
open Go.RowKit Go.Deco
set_option linter.unusedSimpArgs false
set_option linter.unusedVariables false

def symCells (s : Sy) : List Value := [.string s.name, .int .u32 s.addr, .int .i64 s.kind]
def SyOk (s : Sy) : Prop := s.addr < 4294967296 ∧ s.name.size ≤ maxLen ∧ -9223372036854775808 ≤ s.kind ∧ s.kind ≤ 9223372036854775807
theorem sym_chunks {w : World} {S : Nat → Prop} : ∀ (l : List Sy), (∀ s ∈ l, SyOk s) → Chunks symR w S (l.flatMap symCells) l
  | [], _ => rfl
  | s :: l, h => ⟨symCells s, _, rfl, ⟨rfl, h s (by simp)⟩, sym_chunks l fun x hx => h x (by simp [hx])⟩
theorem sym_lit (w : World) (l : List Sy) (h : ∀ s ∈ l, SyOk s) (hm : l.length ≤ maxLen) (t : TypeId) : Sl symR (w.alloc (.cells (l.flatMap symCells).toArray t)) All (.slice (some ⟨w.heap.size, 0, none⟩) l.length l.length) l :=
  sl_of_chunks trivial (sym_chunks l h) (fun j u hu => by simpa using hu) (Nat.le_refl _) hm
theorem sym_litX {a w : World} (he : Ext a w) (l : List Sy) (h : ∀ s ∈ l, SyOk s) (hm : l.length ≤ maxLen) (t : TypeId) : Sl symR (w.alloc (.cells (l.flatMap symCells).toArray t)) All (.slice (some ⟨w.heap.size, 0, none⟩) l.length l.length) l := sym_lit w l h hm t
theorem sl_litX {a w : World} (he : Ext a w) (l : List Nat) (h : ∀ x ∈ l, x < 4294967296) (hm : l.length ≤ maxLen) (t : TypeId) : Sl u32R (w.alloc (.cells (l.map (fun x : Nat => Value.int .u32 x)).toArray t)) All (.slice (some ⟨w.heap.size, 0, none⟩) l.length l.length) l := sl_lit w l h hm t
theorem extAlloc {a w : World} (h : Ext a w) (o : Obj) : ∃ wA sz, w.alloc o = wA ∧ w.heap.size = sz ∧ Ext w wA := ⟨_, _, rfl, rfl, (Ext.refl w).alloc o⟩
theorem ext7 {w w' : World} {p0 p1 p2 p3 p4 p5 p6 : Addr} {u0 u1 u2 u3 u4 u5 u6 : Value} (h : w.cell? p0 = some u0 ∧ w.cell? p1 = some u1 ∧ w.cell? p2 = some u2 ∧ w.cell? p3 = some u3 ∧ w.cell? p4 = some u4 ∧ w.cell? p5 = some u5 ∧ w.cell? p6 = some u6) (he : Ext w w') :
    w'.cell? p0 = some u0 ∧ w'.cell? p1 = some u1 ∧ w'.cell? p2 = some u2 ∧ w'.cell? p3 = some u3 ∧ w'.cell? p4 = some u4 ∧ w'.cell? p5 = some u5 ∧ w'.cell? p6 = some u6 :=
  ⟨he.cell h.1, he.cell h.2.1, he.cell h.2.2.1, he.cell h.2.2.2.1, he.cell h.2.2.2.2.1, he.cell h.2.2.2.2.2.1, he.cell h.2.2.2.2.2.2⟩
theorem ext6 {w w' : World} {p0 p1 p2 p3 p4 p5 : Addr} {u0 u1 u2 u3 u4 u5 : Value} (h : w.cell? p0 = some u0 ∧ w.cell? p1 = some u1 ∧ w.cell? p2 = some u2 ∧ w.cell? p3 = some u3 ∧ w.cell? p4 = some u4 ∧ w.cell? p5 = some u5) (he : Ext w w') :
    w'.cell? p0 = some u0 ∧ w'.cell? p1 = some u1 ∧ w'.cell? p2 = some u2 ∧ w'.cell? p3 = some u3 ∧ w'.cell? p4 = some u4 ∧ w'.cell? p5 = some u5 :=
  ⟨he.cell h.1, he.cell h.2.1, he.cell h.2.2.1, he.cell h.2.2.2.1, he.cell h.2.2.2.2.1, he.cell h.2.2.2.2.2⟩
def exA : Sy := ⟨⟨#[100, 97, 116, 97]⟩, 4160, 2⟩
def exB : Sy := ⟨⟨#[109, 97, 105, 110]⟩, 4096, 1⟩
def exL : List Sy := [exA, exB]
def exP : Sy := ⟨⟨#[98]⟩, 4096, 0⟩
def exQ : Sy := ⟨⟨#[97]⟩, 4096, 0⟩
def exM : List Sy := [exP, exQ]
def exN : List Sy := [⟨⟨#[120]⟩, 0, 1⟩, ⟨⟨#[120]⟩, 0, 9⟩]
theorem syok_of {s : Sy} (h : (decide (s.addr < 4294967296) && decide (s.name.size ≤ 100) && decide (0 ≤ s.kind) && decide (s.kind ≤ 100)) = true) : SyOk s := by
  simp at h
  refine ⟨h.1.1.1, ?_, by omega, by omega⟩
  have := h.1.1.2
  simp [maxLen]
  omega
theorem exL_ok : ∀ s ∈ exL, SyOk s := by
  intro s hs
  simp [exL] at hs
  rcases hs with rfl | rfl <;> exact syok_of (by decide)
theorem exM_ok : ∀ s ∈ exM, SyOk s := by
  intro s hs
  simp [exM] at hs
  rcases hs with rfl | rfl <;> exact syok_of (by decide)
theorem exN_ok : ∀ s ∈ exN, SyOk s := by
  intro s hs
  simp [exN] at hs
  rcases hs with rfl | rfl <;> exact syok_of (by decide)
theorem exL_sz : ∀ s ∈ exL, s.name.size ≤ 4096 := by
  intro s hs
  simp [exL] at hs
  rcases hs with rfl | rfl <;> decide
theorem ex_near : nearSy exL 4112 = some exB := by kernel_rfl
theorem ex_at : atSy exM 4096 = some exQ := by kernel_rfl
theorem ex_n1 : nameAt exL 4112 = ⟨#[109, 97, 105, 110, 43, 48, 120, 49, 48]⟩ := by kernel_rfl
theorem ex_n2 : nameAt exL 4160 = ⟨#[100, 97, 116, 97]⟩ := by kernel_rfl
theorem ex_n3 : nameAt exL 4095 = ⟨#[48, 120, 102, 102, 102]⟩ := by kernel_rfl
theorem ex_n4 : nameAt exL 0 = ⟨#[48, 120, 48]⟩ := by kernel_rfl
theorem ex_c1 : symCheck exL = 0 := by kernel_rfl
theorem ex_c2 : symCheck exN = 8 := by kernel_rfl
theorem ex_f : fnsOf exL = [4096] := by kernel_rfl

theorem ex_mcells : (exM.flatMap symCells).toArray = #[.string ⟨#[98]⟩, .int .u32 4096, .int .i64 0, .string ⟨#[97]⟩, .int .u32 4096, .int .i64 0] := by kernel_rfl
theorem ex_ncells : (exN.flatMap symCells).toArray = #[.string ⟨#[120]⟩, .int .u32 0, .int .i64 1, .string ⟨#[120]⟩, .int .u32 0, .int .i64 9] := by kernel_rfl
set_option maxRecDepth 100000 in
set_option maxHeartbeats 4000000 in
theorem example_any (w : World) (ht : TabAt w) : Calls Tryd.prog 12 #[] w (OneBool w true) := by
  have hb0 := sym_lit w exL exL_ok (by simp [exL, maxLen]) 27
  have hc3 : (w.alloc (.cells (exL.flatMap symCells).toArray 27)).cell? ⟨w.heap.size, 3, none⟩ = some (.string ⟨#[109, 97, 105, 110]⟩) := by simp [exL, symCells, exA, exB, go_sem]
  have hc4 : (w.alloc (.cells (exL.flatMap symCells).toArray 27)).cell? ⟨w.heap.size, 4, none⟩ = some (.int .u32 4096) := by simp [exL, symCells, exA, exB, go_sem]
  have hc5 : (w.alloc (.cells (exL.flatMap symCells).toArray 27)).cell? ⟨w.heap.size, 5, none⟩ = some (.int .i64 1) := by simp [exL, symCells, exA, exB, go_sem]
  obtain ⟨W0, hW0⟩ : ∃ W0, w.alloc (Obj.cells #[.string ⟨#[100, 97, 116, 97]⟩, .int .u32 4160, .int .i64 2, .string ⟨#[109, 97, 105, 110]⟩, .int .u32 4096, .int .i64 1] 27) = W0 := ⟨_, rfl⟩
  have hW0' : w.alloc (.cells (exL.flatMap symCells).toArray 27) = W0 := hW0
  rw [hW0'] at hb0 hc3 hc4 hc5
  have hE0 : Ext w W0 := by rw [← hW0]; exact (Ext.refl w).alloc _
  have HE0 := hid hE0
  have HB0 := hid hb0
  have HT0 := hid (ht.ext hE0)
  have HC0 := hid (And.intro hc3 (And.intro hc4 hc5))
  clear hE0 hb0 hW0' hc3 hc4 hc5 ht
  go_enter Tryd.func12, Tryd.ntmps12
  go_wp2_with fail
  clear hW0
  refine (synear_any W0 (some ⟨w.heap.size, 0, none⟩) 2 2 exL HB0.out 4112 (by omega)).mono ?_
  rintro e w1 ⟨hx1, rfl⟩
  rw [ex_near]
  simp only [Option.getD_some, Option.isSome_some, syVal, distOf, exB]
  obtain ⟨W1, hW1⟩ : ∃ W1, w1.alloc (.cells #[.string ⟨#[109, 97, 105, 110]⟩, .int .u32 4096, .int .i64 1] 27) = W1 := ⟨_, rfl⟩
  have hE1 : Ext W0 W1 := by rw [← hW1]; exact hx1.alloc _
  have hd0 : W1.cell? ⟨w1.heap.size, 0, none⟩ = some (.string ⟨#[109, 97, 105, 110]⟩) := by rw [← hW1]; simp [go_sem]
  have hd1 : W1.cell? ⟨w1.heap.size, 1, none⟩ = some (.int .u32 4096) := by rw [← hW1]; simp [go_sem]
  have hd2 : W1.cell? ⟨w1.heap.size, 2, none⟩ = some (.int .i64 1) := by rw [← hW1]; simp [go_sem]
  have HE1 := hid hE1
  have HD1 := hid (And.intro hd0 (And.intro hd1 hd2))
  have hm1 := sym_lit W1 exM exM_ok (by simp [exM, maxLen]) 27
  rw [ex_mcells] at hm1
  have HM1 := hid hm1
  clear hx1 hE1 hd0 hd1 hd2 hm1
  go_wp2_with fail
  refine (syat_any _ (some ⟨W1.heap.size, 0, none⟩) 2 2 exM HM1.out 4096).mono ?_
  rintro e w2 ⟨hx2, rfl⟩
  rw [ex_at]
  simp only [Option.getD_some, Option.isSome_some, syVal, exQ]
  have hE2 : Ext W1 w2 := ((Ext.refl W1).alloc _).trans hx2
  obtain ⟨b1, hb1⟩ : ∃ b1, w1.heap.size = b1 := ⟨_, rfl⟩
  rw [hb1] at HD1
  obtain ⟨W2, hW2⟩ : ∃ W2, w2.alloc (.cells #[.string ⟨#[97]⟩, .int .u32 4096, .int .i64 0] 27) = W2 := ⟨_, rfl⟩
  have hE3 : Ext w2 W2 := by rw [← hW2]; exact (Ext.refl w2).alloc _
  have he0 : W2.cell? ⟨w2.heap.size, 0, none⟩ = some (.string ⟨#[97]⟩) := by rw [← hW2]; simp [go_sem]
  obtain ⟨b0, hb0⟩ : ∃ b0, w.heap.size = b0 := ⟨_, rfl⟩
  have HE2 := hid ((HE1.out.trans hE2).trans hE3)
  have hex := HE2.out
  have c3 := hex.cell HC0.out.1
  have c4 := hex.cell HC0.out.2.1
  have c5 := hex.cell HC0.out.2.2
  have d0 := hE3.cell (hE2.cell HD1.out.1)
  have d1 := hE3.cell (hE2.cell HD1.out.2.1)
  have d2 := hE3.cell (hE2.cell HD1.out.2.2)
  rw [hb0] at c3 c4 c5
  have HBX := hid (HB0.out.ext hex)
  rw [hb0] at HBX
  have HTX := hid (HT0.out.ext hex)
  have HEX := hid (HE0.out.trans hex)
  have HC7 := hid (And.intro d0 (And.intro d1 (And.intro d2 (And.intro c3 (And.intro c4 (And.intro c5 he0))))))
  clear hW1 hx2 hE2 hE3 hex HE1 HE2 HE0 HC0 HB0 HT0 HD1 HM1
  rw [hb0, hb1]
  clear hb0 hb1
  have HW2 := hid hW2
  clear hW2
  go_wp2_with fail
  rw [HW2.out]
  clear HW2
  obtain ⟨b2, hb2⟩ : ∃ b2, w2.heap.size = b2 := ⟨_, rfl⟩
  rw [hb2] at he0 HC7
  rw [hb2]
  clear hb2
  have HXR0 := hid ((Ext.refl W2).drew)
  refine wp_region_held_drew (S := (fun w' => w'.cell? ⟨b1, 0, none⟩ = some (.string ⟨#[109, 97, 105, 110]⟩) ∧ w'.cell? ⟨b1, 1, none⟩ = some (.int .u32 4096) ∧ w'.cell? ⟨b1, 2, none⟩ = some (.int .i64 1) ∧ w'.cell? ⟨b0, 3, none⟩ = some (.string ⟨#[109, 97, 105, 110]⟩) ∧ w'.cell? ⟨b0, 4, none⟩ = some (.int .u32 4096) ∧ w'.cell? ⟨b0, 5, none⟩ = some (.int .i64 1) ∧ w'.cell? ⟨b2, 0, none⟩ = some (.string ⟨#[97]⟩))) (by kernel_rfl) ⟨d0, d1, d2, c3, c4, c5, he0⟩ (fun hSR0 => ?_)
  refine wpAnyH_takeL (i := 0) (v := ?Rv0x1) rfl (by kernel_rfl) (by kernel_rfl) (by kernel_rfl) (fun _ _ _ h => h) (Or.inl ⟨by rfl, ?Ry0x1⟩) (by assumption) ?Rr0x1
  case Ry0x1 => first | (intro w hSw; (try dsimp only at hSw); go_simp; done) | (intro w hSw; (try dsimp only at hSw); go_simp; with_reducible rfl)
  case' Rr0x1 => try simp only [Act.put, List.setIfInBounds_toArray, List.set_cons_zero, List.set_cons_succ]
  refine wpAnyH_takeL (i := 1) (v := ?Rv1x2) rfl (by kernel_rfl) (by kernel_rfl) (by kernel_rfl) (fun _ _ _ h => h) (Or.inl ⟨by rfl, ?Ry1x2⟩) (by assumption) ?Rr1x2
  case Ry1x2 => first | (intro w hSw; (try dsimp only at hSw); go_simp; done) | (intro w hSw; (try dsimp only at hSw); go_simp; with_reducible rfl)
  case' Rr1x2 => try simp only [Act.put, List.setIfInBounds_toArray, List.set_cons_zero, List.set_cons_succ]
  refine wpAnyH_takeL (i := 2) (v := ?Rv2x3) rfl (by kernel_rfl) (by kernel_rfl) (by kernel_rfl) (fun _ _ _ h => h) (Or.inl ⟨by rfl, ?Ry2x3⟩) (by assumption) ?Rr2x3
  case Ry2x3 => first | (intro w hSw; (try dsimp only at hSw); go_simp; done) | (intro w hSw; (try dsimp only at hSw); go_simp; with_reducible rfl)
  case' Rr2x3 => try simp only [Act.put, List.setIfInBounds_toArray, List.set_cons_zero, List.set_cons_succ]
  refine wpAnyH_takeL (i := 3) (v := ?Rv3x4) rfl (by kernel_rfl) (by kernel_rfl) (by kernel_rfl) (fun _ _ _ h => h) (Or.inl ⟨by rfl, ?Ry3x4⟩) (by assumption) ?Rr3x4
  case Ry3x4 => first | (intro w hSw; (try dsimp only at hSw); go_simp; done) | (intro w hSw; (try dsimp only at hSw); go_simp; with_reducible rfl)
  case' Rr3x4 => try simp only [Act.put, List.setIfInBounds_toArray, List.set_cons_zero, List.set_cons_succ]
  refine wpAnyH_takeL (i := 4) (v := ?Rv4x5) rfl (by kernel_rfl) (by kernel_rfl) (by kernel_rfl) (fun _ _ _ h => h) (Or.inl ⟨by rfl, ?Ry4x5⟩) (by assumption) ?Rr4x5
  case Ry4x5 => first | (intro w hSw; (try dsimp only at hSw); go_simp; done) | (intro w hSw; (try dsimp only at hSw); go_simp; with_reducible rfl)
  case' Rr4x5 => try simp only [Act.put, List.setIfInBounds_toArray, List.set_cons_zero, List.set_cons_succ]
  refine wpAnyH_takeL (i := 5) (v := ?Rv5x6) rfl (by kernel_rfl) (by kernel_rfl) (by kernel_rfl) (fun _ _ _ h => h) (Or.inl ⟨by rfl, ?Ry5x6⟩) (by assumption) ?Rr5x6
  case Ry5x6 => first | (intro w hSw; (try dsimp only at hSw); go_simp; done) | (intro w hSw; (try dsimp only at hSw); go_simp; with_reducible rfl)
  case' Rr5x6 => try simp only [Act.put, List.setIfInBounds_toArray, List.set_cons_zero, List.set_cons_succ]
  refine wpAnyH_takeL (i := 6) (v := ?Rv6x7) rfl (by kernel_rfl) (by kernel_rfl) (by kernel_rfl) (fun _ _ _ h => h) (Or.inl ⟨by rfl, ?Ry6x7⟩) (by assumption) ?Rr6x7
  case Ry6x7 => first | (intro w hSw; (try dsimp only at hSw); go_simp; done) | (intro w hSw; (try dsimp only at hSw); go_simp; with_reducible rfl)
  case' Rr6x7 => try simp only [Act.put, List.setIfInBounds_toArray, List.set_cons_zero, List.set_cons_succ]
  refine wpAnyH_takeL (i := 7) (v := ?Rv7x8) rfl (by kernel_rfl) (by kernel_rfl) (by kernel_rfl) (fun _ _ _ h => h) (Or.inl ⟨by rfl, ?Ry7x8⟩) (by assumption) ?Rr7x8
  case Ry7x8 => first | (intro w hSw; (try dsimp only at hSw); go_simp; done) | (intro w hSw; (try dsimp only at hSw); go_simp; with_reducible rfl)
  case' Rr7x8 => try simp only [Act.put, List.setIfInBounds_toArray, List.set_cons_zero, List.set_cons_succ]
  refine wpAnyH_takeL (i := 8) (v := ?Rv8x9) rfl (by kernel_rfl) (by kernel_rfl) (by kernel_rfl) (fun _ _ _ h => h) (Or.inl ⟨by rfl, ?Ry8x9⟩) (by assumption) ?Rr8x9
  case Ry8x9 => first | (intro w hSw; (try dsimp only at hSw); go_simp; done) | (intro w hSw; (try dsimp only at hSw); go_simp; with_reducible rfl)
  case' Rr8x9 => try simp only [Act.put, List.setIfInBounds_toArray, List.set_cons_zero, List.set_cons_succ]
  refine wpAnyH_takeL (i := 9) (v := ?Rv9x10) rfl (by kernel_rfl) (by kernel_rfl) (by kernel_rfl) (fun _ _ _ h => h) (Or.inl ⟨by rfl, ?Ry9x10⟩) (by assumption) ?Rr9x10
  case Ry9x10 => first | (intro w hSw; (try dsimp only at hSw); go_simp; done) | (intro w hSw; (try dsimp only at hSw); go_simp; with_reducible rfl)
  case' Rr9x10 => try simp only [Act.put, List.setIfInBounds_toArray, List.set_cons_zero, List.set_cons_succ]
  refine wpAnyH_takeL (i := 10) (v := ?Rv10x11) rfl (by kernel_rfl) (by kernel_rfl) (by kernel_rfl) (fun _ _ _ h => h) (Or.inl ⟨by rfl, ?Ry10x11⟩) (by assumption) ?Rr10x11
  case Ry10x11 => first | (intro w hSw; (try dsimp only at hSw); go_simp; done) | (intro w hSw; (try dsimp only at hSw); go_simp; with_reducible rfl)
  case' Rr10x11 => try simp only [Act.put, List.setIfInBounds_toArray, List.set_cons_zero, List.set_cons_succ]
  refine wpAnyH_takeL (i := 11) (v := ?Rv11x12) rfl (by kernel_rfl) (by kernel_rfl) (by kernel_rfl) (fun _ _ _ h => h) (Or.inl ⟨by rfl, ?Ry11x12⟩) (by assumption) ?Rr11x12
  case Ry11x12 => first | (intro w hSw; (try dsimp only at hSw); go_simp; done) | (intro w hSw; (try dsimp only at hSw); go_simp; with_reducible rfl)
  case' Rr11x12 => try simp only [Act.put, List.setIfInBounds_toArray, List.set_cons_zero, List.set_cons_succ]
  refine wpAnyH_takeL (i := 12) (v := ?Rv12x13) rfl (by kernel_rfl) (by kernel_rfl) (by kernel_rfl) (fun _ _ _ h => h) (Or.inl ⟨by rfl, ?Ry12x13⟩) (by assumption) ?Rr12x13
  case Ry12x13 => first | (intro w hSw; (try dsimp only at hSw); go_simp; done) | (intro w hSw; (try dsimp only at hSw); go_simp; with_reducible rfl)
  case' Rr12x13 => try simp only [Act.put, List.setIfInBounds_toArray, List.set_cons_zero, List.set_cons_succ]
  refine wpAnyH_takeL (i := 13) (v := ?Rv13x14) rfl (by kernel_rfl) (by kernel_rfl) (by kernel_rfl) (fun _ _ _ h => h) (Or.inl ⟨by rfl, ?Ry13x14⟩) (by assumption) ?Rr13x14
  case Ry13x14 => first | (intro w hSw; (try dsimp only at hSw); go_simp; done) | (intro w hSw; (try dsimp only at hSw); go_simp; with_reducible rfl)
  case' Rr13x14 => try simp only [Act.put, List.setIfInBounds_toArray, List.set_cons_zero, List.set_cons_succ]
  refine wpAnyH_takeL (i := 14) (v := ?Rv14x15) rfl (by kernel_rfl) (by kernel_rfl) (by kernel_rfl) (fun _ _ _ h => h) (Or.inl ⟨by rfl, ?Ry14x15⟩) (by assumption) ?Rr14x15
  case Ry14x15 => first | (intro w hSw; (try dsimp only at hSw); go_simp; done) | (intro w hSw; (try dsimp only at hSw); go_simp; with_reducible rfl)
  case' Rr14x15 => try simp only [Act.put, List.setIfInBounds_toArray, List.set_cons_zero, List.set_cons_succ]
  refine wpAnyH_takeL (i := 15) (v := ?Rv15x16) rfl (by kernel_rfl) (by kernel_rfl) (by kernel_rfl) (fun _ _ _ h => h) (Or.inl ⟨by rfl, ?Ry15x16⟩) (by assumption) ?Rr15x16
  case Ry15x16 => first | (intro w hSw; (try dsimp only at hSw); go_simp; done) | (intro w hSw; (try dsimp only at hSw); go_simp; with_reducible rfl)
  case' Rr15x16 => try simp only [Act.put, List.setIfInBounds_toArray, List.set_cons_zero, List.set_cons_succ]
  refine wpAnyH_takeL (i := 16) (v := ?Rv16x17) rfl (by kernel_rfl) (by kernel_rfl) (by kernel_rfl) (fun _ _ _ h => h) (Or.inl ⟨by rfl, ?Ry16x17⟩) (by assumption) ?Rr16x17
  case Ry16x17 => first | (intro w hSw; (try dsimp only at hSw); go_simp; done) | (intro w hSw; (try dsimp only at hSw); go_simp; with_reducible rfl)
  case' Rr16x17 => try simp only [Act.put, List.setIfInBounds_toArray, List.set_cons_zero, List.set_cons_succ]
  refine wpAnyH_takeL (i := 17) (v := ?Rv17x18) rfl (by kernel_rfl) (by kernel_rfl) (by kernel_rfl) (fun _ _ _ h => h) (Or.inl ⟨by rfl, ?Ry17x18⟩) (by assumption) ?Rr17x18
  case Ry17x18 => first | (intro w hSw; (try dsimp only at hSw); go_simp; done) | (intro w hSw; (try dsimp only at hSw); go_simp; with_reducible rfl)
  case' Rr17x18 => try simp only [Act.put, List.setIfInBounds_toArray, List.set_cons_zero, List.set_cons_succ]
  refine wpAnyH_takeL (i := 18) (v := ?Rv18x19) rfl (by kernel_rfl) (by kernel_rfl) (by kernel_rfl) (fun _ _ _ h => h) (Or.inl ⟨by rfl, ?Ry18x19⟩) (by assumption) ?Rr18x19
  case Ry18x19 => first | (intro w hSw; (try dsimp only at hSw); go_simp; done) | (intro w hSw; (try dsimp only at hSw); go_simp; with_reducible rfl)
  case' Rr18x19 => try simp only [Act.put, List.setIfInBounds_toArray, List.set_cons_zero, List.set_cons_succ]
  refine wpAnyH_takeL (i := 19) (v := ?Rv19x20) rfl (by kernel_rfl) (by kernel_rfl) (by kernel_rfl) (fun _ _ _ h => h) (Or.inl ⟨by rfl, ?Ry19x20⟩) (by assumption) ?Rr19x20
  case Ry19x20 => first | (intro w hSw; (try dsimp only at hSw); go_simp; done) | (intro w hSw; (try dsimp only at hSw); go_simp; with_reducible rfl)
  case' Rr19x20 => try simp only [Act.put, List.setIfInBounds_toArray, List.set_cons_zero, List.set_cons_succ]
  refine wpAnyH_takeL (i := 20) (v := ?Rv20x21) rfl (by kernel_rfl) (by kernel_rfl) (by kernel_rfl) (fun _ _ _ h => h) (Or.inl ⟨by rfl, ?Ry20x21⟩) (by assumption) ?Rr20x21
  case Ry20x21 => first | (intro w hSw; (try dsimp only at hSw); go_simp; done) | (intro w hSw; (try dsimp only at hSw); go_simp; with_reducible rfl)
  case' Rr20x21 => try simp only [Act.put, List.setIfInBounds_toArray, List.set_cons_zero, List.set_cons_succ]
  refine wpAnyH_takeL (i := 21) (v := ?Rv21x22) rfl (by kernel_rfl) (by kernel_rfl) (by kernel_rfl) (fun _ _ _ h => h) (Or.inl ⟨by rfl, ?Ry21x22⟩) (by assumption) ?Rr21x22
  case Ry21x22 => first | (intro w hSw; (try dsimp only at hSw); go_simp; done) | (intro w hSw; (try dsimp only at hSw); go_simp; with_reducible rfl)
  case' Rr21x22 => try simp only [Act.put, List.setIfInBounds_toArray, List.set_cons_zero, List.set_cons_succ]
  refine wpAnyH_ready (rs := [22]) (by kernel_rfl) (by simp) ?_
  refine (AllReadyH.consL rfl (fun K hK => ?Rb22x23) AllReadyH.nil)
  case' Rb22x23 =>
    go_simp
    go_at_call 16
    refine (syname2_any _ (HTX.out.ext HXR0.out) (some ⟨b0, 0, none⟩) 2 2 exL (HBX.out.ext HXR0.out) 4112 (by omega) exL_sz).mono ?_
    rintro e w5 ⟨rfl, hER1⟩
    rw [ex_n1]
    have HXR1 := hid (HXR0.out.trans hER1)
    clear hER1
    refine hK.out _ _ (ext7 HC7.out HXR1.out) (fun hSR1 => ?_)
    clear hK K
    try simp only [Act.put, List.setIfInBounds_toArray, List.set_cons_zero, List.set_cons_succ]
    refine wpAnyH_takeL (i := 23) (v := ?Rv23x24) rfl (by kernel_rfl) (by kernel_rfl) (by kernel_rfl) (fun _ _ _ h => h) (Or.inl ⟨by rfl, ?Ry23x24⟩) (by assumption) ?Rr23x24
    case Ry23x24 => first | (intro w hSw; (try dsimp only at hSw); go_simp; done) | (intro w hSw; (try dsimp only at hSw); go_simp; with_reducible rfl)
    case' Rr23x24 => try simp only [Act.put, List.setIfInBounds_toArray, List.set_cons_zero, List.set_cons_succ]
    refine wpAnyH_takeL (i := 24) (v := ?Rv24x25) rfl (by kernel_rfl) (by kernel_rfl) (by kernel_rfl) (fun _ _ _ h => h) (Or.inl ⟨by rfl, ?Ry24x25⟩) (by assumption) ?Rr24x25
    case Ry24x25 => first | (intro w hSw; (try dsimp only at hSw); go_simp; done) | (intro w hSw; (try dsimp only at hSw); go_simp; with_reducible rfl)
    case' Rr24x25 => try simp only [Act.put, List.setIfInBounds_toArray, List.set_cons_zero, List.set_cons_succ]
    refine wpAnyH_takeL (i := 25) (v := ?Rv25x26) rfl (by kernel_rfl) (by kernel_rfl) (by kernel_rfl) (fun _ _ _ h => h) (Or.inl ⟨by rfl, ?Ry25x26⟩) (by assumption) ?Rr25x26
    case Ry25x26 => first | (intro w hSw; (try dsimp only at hSw); go_simp; done) | (intro w hSw; (try dsimp only at hSw); go_simp; with_reducible rfl)
    case' Rr25x26 => try simp only [Act.put, List.setIfInBounds_toArray, List.set_cons_zero, List.set_cons_succ]
    refine wpAnyH_takeL (i := 26) (v := ?Rv26x27) rfl (by kernel_rfl) (by kernel_rfl) (by kernel_rfl) (fun _ _ _ h => h) (Or.inl ⟨by rfl, ?Ry26x27⟩) (by assumption) ?Rr26x27
    case Ry26x27 => first | (intro w hSw; (try dsimp only at hSw); go_simp; done) | (intro w hSw; (try dsimp only at hSw); go_simp; with_reducible rfl)
    case' Rr26x27 => try simp only [Act.put, List.setIfInBounds_toArray, List.set_cons_zero, List.set_cons_succ]
    refine wpAnyH_ready (rs := [27]) (by kernel_rfl) (by simp) ?_
    refine (AllReadyH.consL rfl (fun K hK => ?Rb27x28) AllReadyH.nil)
    case' Rb27x28 =>
      go_simp
      go_at_call 16
      refine (syname2_any _ (HTX.out.ext HXR1.out) (some ⟨b0, 0, none⟩) 2 2 exL (HBX.out.ext HXR1.out) 4160 (by omega) exL_sz).mono ?_
      rintro e w5 ⟨rfl, hER2⟩
      rw [ex_n2]
      have HXR2 := hid (HXR1.out.trans hER2)
      clear hER2
      refine hK.out _ _ (ext7 HC7.out HXR2.out) (fun hSR2 => ?_)
      clear hK K
      try simp only [Act.put, List.setIfInBounds_toArray, List.set_cons_zero, List.set_cons_succ]
      refine wpAnyH_takeL (i := 28) (v := ?Rv28x29) rfl (by kernel_rfl) (by kernel_rfl) (by kernel_rfl) (fun _ _ _ h => h) (Or.inl ⟨by rfl, ?Ry28x29⟩) (by assumption) ?Rr28x29
      case Ry28x29 => first | (intro w hSw; (try dsimp only at hSw); go_simp; done) | (intro w hSw; (try dsimp only at hSw); go_simp; with_reducible rfl)
      case' Rr28x29 => try simp only [Act.put, List.setIfInBounds_toArray, List.set_cons_zero, List.set_cons_succ]
      refine wpAnyH_takeL (i := 29) (v := ?Rv29x30) rfl (by kernel_rfl) (by kernel_rfl) (by kernel_rfl) (fun _ _ _ h => h) (Or.inl ⟨by rfl, ?Ry29x30⟩) (by assumption) ?Rr29x30
      case Ry29x30 => first | (intro w hSw; (try dsimp only at hSw); go_simp; done) | (intro w hSw; (try dsimp only at hSw); go_simp; with_reducible rfl)
      case' Rr29x30 => try simp only [Act.put, List.setIfInBounds_toArray, List.set_cons_zero, List.set_cons_succ]
      refine wpAnyH_takeL (i := 30) (v := ?Rv30x31) rfl (by kernel_rfl) (by kernel_rfl) (by kernel_rfl) (fun _ _ _ h => h) (Or.inl ⟨by rfl, ?Ry30x31⟩) (by assumption) ?Rr30x31
      case Ry30x31 => first | (intro w hSw; (try dsimp only at hSw); go_simp; done) | (intro w hSw; (try dsimp only at hSw); go_simp; with_reducible rfl)
      case' Rr30x31 => try simp only [Act.put, List.setIfInBounds_toArray, List.set_cons_zero, List.set_cons_succ]
      refine wpAnyH_takeL (i := 31) (v := ?Rv31x32) rfl (by kernel_rfl) (by kernel_rfl) (by kernel_rfl) (fun _ _ _ h => h) (Or.inl ⟨by rfl, ?Ry31x32⟩) (by assumption) ?Rr31x32
      case Ry31x32 => first | (intro w hSw; (try dsimp only at hSw); go_simp; done) | (intro w hSw; (try dsimp only at hSw); go_simp; with_reducible rfl)
      case' Rr31x32 => try simp only [Act.put, List.setIfInBounds_toArray, List.set_cons_zero, List.set_cons_succ]
      refine wpAnyH_ready (rs := [32]) (by kernel_rfl) (by simp) ?_
      refine (AllReadyH.consL rfl (fun K hK => ?Rb32x33) AllReadyH.nil)
      case' Rb32x33 =>
        go_simp
        go_at_call 16
        refine (syname2_any _ (HTX.out.ext HXR2.out) (some ⟨b0, 0, none⟩) 2 2 exL (HBX.out.ext HXR2.out) 4095 (by omega) exL_sz).mono ?_
        rintro e w5 ⟨rfl, hER3⟩
        rw [ex_n3]
        have HXR3 := hid (HXR2.out.trans hER3)
        clear hER3
        refine hK.out _ _ (ext7 HC7.out HXR3.out) (fun hSR3 => ?_)
        clear hK K
        try simp only [Act.put, List.setIfInBounds_toArray, List.set_cons_zero, List.set_cons_succ]
        refine wpAnyH_takeL (i := 33) (v := ?Rv33x34) rfl (by kernel_rfl) (by kernel_rfl) (by kernel_rfl) (fun _ _ _ h => h) (Or.inl ⟨by rfl, ?Ry33x34⟩) (by assumption) ?Rr33x34
        case Ry33x34 => first | (intro w hSw; (try dsimp only at hSw); go_simp; done) | (intro w hSw; (try dsimp only at hSw); go_simp; with_reducible rfl)
        case' Rr33x34 => try simp only [Act.put, List.setIfInBounds_toArray, List.set_cons_zero, List.set_cons_succ]
        refine wpAnyH_takeL (i := 34) (v := ?Rv34x35) rfl (by kernel_rfl) (by kernel_rfl) (by kernel_rfl) (fun _ _ _ h => h) (Or.inl ⟨by rfl, ?Ry34x35⟩) (by assumption) ?Rr34x35
        case Ry34x35 => first | (intro w hSw; (try dsimp only at hSw); go_simp; done) | (intro w hSw; (try dsimp only at hSw); go_simp; with_reducible rfl)
        case' Rr34x35 => try simp only [Act.put, List.setIfInBounds_toArray, List.set_cons_zero, List.set_cons_succ]
        refine wpAnyH_takeL (i := 35) (v := ?Rv35x36) rfl (by kernel_rfl) (by kernel_rfl) (by kernel_rfl) (fun _ _ _ h => h) (Or.inl ⟨by rfl, ?Ry35x36⟩) (by assumption) ?Rr35x36
        case Ry35x36 => first | (intro w hSw; (try dsimp only at hSw); go_simp; done) | (intro w hSw; (try dsimp only at hSw); go_simp; with_reducible rfl)
        case' Rr35x36 => try simp only [Act.put, List.setIfInBounds_toArray, List.set_cons_zero, List.set_cons_succ]
        refine wpAnyH_takeL (i := 36) (v := ?Rv36x37) rfl (by kernel_rfl) (by kernel_rfl) (by kernel_rfl) (fun _ _ _ h => h) (Or.inl ⟨by rfl, ?Ry36x37⟩) (by assumption) ?Rr36x37
        case Ry36x37 => first | (intro w hSw; (try dsimp only at hSw); go_simp; done) | (intro w hSw; (try dsimp only at hSw); go_simp; with_reducible rfl)
        case' Rr36x37 => try simp only [Act.put, List.setIfInBounds_toArray, List.set_cons_zero, List.set_cons_succ]
        refine wpAnyH_ready (rs := [37]) (by kernel_rfl) (by simp) ?_
        refine (AllReadyH.consL rfl (fun K hK => ?Rb37x38) AllReadyH.nil)
        case' Rb37x38 =>
          go_simp
          go_at_call 16
          refine (syname2_any _ (HTX.out.ext HXR3.out) (some ⟨b0, 0, none⟩) 2 2 exL (HBX.out.ext HXR3.out) 0 (by omega) exL_sz).mono ?_
          rintro e w5 ⟨rfl, hER4⟩
          rw [ex_n4]
          have HXR4 := hid (HXR3.out.trans hER4)
          clear hER4
          refine hK.out _ _ (ext7 HC7.out HXR4.out) (fun hSR4 => ?_)
          clear hK K
          try simp only [Act.put, List.setIfInBounds_toArray, List.set_cons_zero, List.set_cons_succ]
          refine wpAnyH_takeL (i := 38) (v := ?Rv38x39) rfl (by kernel_rfl) (by kernel_rfl) (by kernel_rfl) (fun _ _ _ h => h) (Or.inl ⟨by rfl, ?Ry38x39⟩) (by assumption) ?Rr38x39
          case Ry38x39 => first | (intro w hSw; (try dsimp only at hSw); go_simp; done) | (intro w hSw; (try dsimp only at hSw); go_simp; with_reducible rfl)
          case' Rr38x39 => try simp only [Act.put, List.setIfInBounds_toArray, List.set_cons_zero, List.set_cons_succ]
          refine wpAnyH_takeL (i := 39) (v := ?Rv39x40) rfl (by kernel_rfl) (by kernel_rfl) (by kernel_rfl) (fun _ _ _ h => h) (Or.inl ⟨by rfl, ?Ry39x40⟩) (by assumption) ?Rr39x40
          case Ry39x40 => first | (intro w hSw; (try dsimp only at hSw); go_simp; done) | (intro w hSw; (try dsimp only at hSw); go_simp; with_reducible rfl)
          case' Rr39x40 => try simp only [Act.put, List.setIfInBounds_toArray, List.set_cons_zero, List.set_cons_succ]
          refine wpAnyH_takeL (i := 40) (v := ?Rv40x41) rfl (by kernel_rfl) (by kernel_rfl) (by kernel_rfl) (fun _ _ _ h => h) (Or.inl ⟨by rfl, ?Ry40x41⟩) (by assumption) ?Rr40x41
          case Ry40x41 => first | (intro w hSw; (try dsimp only at hSw); go_simp; done) | (intro w hSw; (try dsimp only at hSw); go_simp; with_reducible rfl)
          case' Rr40x41 => try simp only [Act.put, List.setIfInBounds_toArray, List.set_cons_zero, List.set_cons_succ]
          refine wpAnyH_takeL (i := 41) (v := ?Rv41x42) rfl (by kernel_rfl) (by kernel_rfl) (by kernel_rfl) (fun _ _ _ h => h) (Or.inl ⟨by rfl, ?Ry41x42⟩) (by assumption) ?Rr41x42
          case Ry41x42 => first | (intro w hSw; (try dsimp only at hSw); go_simp; done) | (intro w hSw; (try dsimp only at hSw); go_simp; with_reducible rfl)
          case' Rr41x42 => try simp only [Act.put, List.setIfInBounds_toArray, List.set_cons_zero, List.set_cons_succ]
          refine wpAnyH_ready (rs := [42]) (by kernel_rfl) (by simp) ?_
          refine (AllReadyH.consL rfl (fun K hK => ?Rb42x43) AllReadyH.nil)
          case' Rb42x43 =>
            go_simp
            go_at_call 14
            refine (sycheck_any _ (some ⟨b0, 0, none⟩) 2 2 exL (HBX.out.ext HXR4.out)).mono ?_
            rintro e w5 ⟨rfl, hER5⟩
            rw [ex_c1]
            have HXR5 := hid (HXR4.out.trans hER5)
            clear hER5
            refine hK.out _ _ (ext7 HC7.out HXR5.out) (fun hSR5 => ?_)
            clear hK K
            try simp only [Act.put, List.setIfInBounds_toArray, List.set_cons_zero, List.set_cons_succ]
            refine wpAnyH_takeL (i := 43) (v := ?Rv43x44) rfl (by kernel_rfl) (by kernel_rfl) (by kernel_rfl) (fun _ _ _ h => h) (Or.inl ⟨by rfl, ?Ry43x44⟩) (by assumption) ?Rr43x44
            case Ry43x44 => first | (intro w hSw; (try dsimp only at hSw); go_simp; done) | (intro w hSw; (try dsimp only at hSw); go_simp; with_reducible rfl)
            case' Rr43x44 => try simp only [Act.put, List.setIfInBounds_toArray, List.set_cons_zero, List.set_cons_succ]
            refine wpAnyH_takeL (i := 44) (v := ?Rv44x45) rfl (by kernel_rfl) (by kernel_rfl) (by kernel_rfl) (fun _ _ _ h => h) (Or.inl ⟨by rfl, ?Ry44x45⟩) (by assumption) ?Rr44x45
            case Ry44x45 => first | (intro w hSw; (try dsimp only at hSw); go_simp; done) | (intro w hSw; (try dsimp only at hSw); go_simp; with_reducible rfl)
            case' Rr44x45 => try simp only [Act.put, List.setIfInBounds_toArray, List.set_cons_zero, List.set_cons_succ]
            refine wpAnyH_takeL (i := 45) (v := ?Rv45x46) rfl (by kernel_rfl) (by kernel_rfl) (by kernel_rfl) (fun _ _ _ h => h) (Or.inl ⟨by rfl, ?Ry45x46⟩) (by assumption) ?Rr45x46
            case Ry45x46 => first | (intro w hSw; (try dsimp only at hSw); go_simp; done) | (intro w hSw; (try dsimp only at hSw); go_simp; with_reducible rfl)
            case' Rr45x46 => try simp only [Act.put, List.setIfInBounds_toArray, List.set_cons_zero, List.set_cons_succ]
            refine wpAnyH_takeL (i := 46) (v := ?Rv46x47) rfl (by kernel_rfl) (by kernel_rfl) (by kernel_rfl) (fun _ _ _ h => h) (Or.inl ⟨by rfl, ?Ry46x47⟩) (by assumption) ?Rr46x47
            case Ry46x47 => first | (intro w hSw; (try dsimp only at hSw); go_simp; done) | (intro w hSw; (try dsimp only at hSw); go_simp; with_reducible rfl)
            case' Rr46x47 => try simp only [Act.put, List.setIfInBounds_toArray, List.set_cons_zero, List.set_cons_succ]
            refine wpAnyH_takeL (i := 47) (v := ?Rv47x48) rfl (by kernel_rfl) (by kernel_rfl) (by kernel_rfl) (fun _ _ _ h => h) (Or.inl ⟨by rfl, ?Ry47x48⟩) (by assumption) ?Rr47x48
            case Ry47x48 => first | (intro w hSw; (try dsimp only at hSw); go_simp; done) | (intro w hSw; (try dsimp only at hSw); go_simp; with_reducible rfl)
            case' Rr47x48 => try simp only [Act.put, List.setIfInBounds_toArray, List.set_cons_zero, List.set_cons_succ]
            refine wpAnyH_ready (rs := [48]) (by kernel_rfl) (by simp) ?_
            refine (AllReadyH.consL rfl (fun K hK => ?Rb48x49) AllReadyH.nil)
            case' Rb48x49 =>
              go_simp
              have hn3 := sym_litX HXR5.out exN exN_ok (by simp [exN, maxLen]) 27
              rw [ex_ncells] at hn3
              obtain ⟨wZ, aZ, hA, hsz, hER6⟩ := extAlloc HXR5.out (.cells #[.string ⟨#[120]⟩, .int .u32 0, .int .i64 1, .string ⟨#[120]⟩, .int .u32 0, .int .i64 9] 27)
              rw [hA, hsz] at hn3
              refine Eq.mpr (congrArg (K _) hA) ?_
              rw [hsz]
              have HN3 := hid hn3
              clear hA hsz hn3
              have HXR6 := hid (HXR5.out.trans hER6)
              clear hER6
              refine hK.out _ _ (ext7 HC7.out HXR6.out) (fun hSR6 => ?_)
              clear hK K
              try simp only [Act.put, List.setIfInBounds_toArray, List.set_cons_zero, List.set_cons_succ]
              refine wpAnyH_ready (rs := [49]) (by kernel_rfl) (by simp) ?_
              refine (AllReadyH.consL rfl (fun K hK => ?Rb49x50) AllReadyH.nil)
              case' Rb49x50 =>
                go_simp
                go_at_call 14
                refine (sycheck_any _ (some ⟨aZ, 0, none⟩) 2 2 exN (HN3.out.ext (Ext.refl _))).mono ?_
                rintro e w5 ⟨rfl, hER7⟩
                rw [ex_c2]
                have HXR7 := hid (HXR6.out.trans hER7)
                have HN3 := hid (HN3.out.ext hER7)
                clear hER7
                refine hK.out _ _ (ext7 HC7.out HXR7.out) (fun hSR7 => ?_)
                clear hK K
                try simp only [Act.put, List.setIfInBounds_toArray, List.set_cons_zero, List.set_cons_succ]
                refine wpAnyH_takeL (i := 50) (v := ?Rv50x51) rfl (by kernel_rfl) (by kernel_rfl) (by kernel_rfl) (fun _ _ _ h => h) (Or.inl ⟨by rfl, ?Ry50x51⟩) (by assumption) ?Rr50x51
                case Ry50x51 => first | (intro w hSw; (try dsimp only at hSw); go_simp; done) | (intro w hSw; (try dsimp only at hSw); go_simp; with_reducible rfl)
                case' Rr50x51 => try simp only [Act.put, List.setIfInBounds_toArray, List.set_cons_zero, List.set_cons_succ]
                refine wpAnyH_takeL (i := 51) (v := ?Rv51x52) rfl (by kernel_rfl) (by kernel_rfl) (by kernel_rfl) (fun _ _ _ h => h) (Or.inl ⟨by rfl, ?Ry51x52⟩) (by assumption) ?Rr51x52
                case Ry51x52 => first | (intro w hSw; (try dsimp only at hSw); go_simp; done) | (intro w hSw; (try dsimp only at hSw); go_simp; with_reducible rfl)
                case' Rr51x52 => try simp only [Act.put, List.setIfInBounds_toArray, List.set_cons_zero, List.set_cons_succ]
                refine wpAnyH_takeL (i := 52) (v := ?Rv52x53) rfl (by kernel_rfl) (by kernel_rfl) (by kernel_rfl) (fun _ _ _ h => h) (Or.inl ⟨by rfl, ?Ry52x53⟩) (by assumption) ?Rr52x53
                case Ry52x53 => first | (intro w hSw; (try dsimp only at hSw); go_simp; done) | (intro w hSw; (try dsimp only at hSw); go_simp; with_reducible rfl)
                case' Rr52x53 => try simp only [Act.put, List.setIfInBounds_toArray, List.set_cons_zero, List.set_cons_succ]
                refine wpAnyH_takeL (i := 53) (v := ?Rv53x54) rfl (by kernel_rfl) (by kernel_rfl) (by kernel_rfl) (fun _ _ _ h => h) (Or.inl ⟨by rfl, ?Ry53x54⟩) (by assumption) ?Rr53x54
                case Ry53x54 => first | (intro w hSw; (try dsimp only at hSw); go_simp; done) | (intro w hSw; (try dsimp only at hSw); go_simp; with_reducible rfl)
                case' Rr53x54 => try simp only [Act.put, List.setIfInBounds_toArray, List.set_cons_zero, List.set_cons_succ]
                refine wpAnyH_ready (rs := [54, 55]) (by kernel_rfl) (by simp) ?_
                refine (AllReadyH.consL rfl (fun K hK => ?Rb54x55) (AllReadyH.consL rfl (fun K hK => ?Rb55x55) AllReadyH.nil))
                case' Rb54x55 =>
                  go_simp
                  go_at_call 20
                  refine (syfuncs_any _ (some ⟨b0, 0, none⟩) 2 2 exL (HBX.out.ext HXR7.out) (by omega)).mono ?_
                  rintro e w5 ⟨hER8, A4, c4', rfl, hf4⟩
                  rw [ex_f] at hf4 ⊢
                  have HF4 := hid hf4
                  clear hf4
                  have HXR8 := hid (HXR7.out.trans hER8)
                  have HN3 := hid (HN3.out.ext hER8)
                  clear hER8
                  refine hK.out _ _ (ext7 HC7.out HXR8.out) (fun hSR8 => ?_)
                  clear hK K
                  try simp only [Act.put, List.setIfInBounds_toArray, List.set_cons_zero, List.set_cons_succ]
                  refine wpAnyH_ready (rs := [55]) (by kernel_rfl) (by simp) ?_
                  refine (AllReadyH.consL rfl (fun K hK => ?Rb55x56) AllReadyH.nil)
                  case' Rb55x56 =>
                    go_simp
                    have hw5 := sl_litX HXR8.out [4096] (by decide) (by simp [maxLen]) 23
                    obtain ⟨wY, aY, hA, hsz, hER9⟩ := extAlloc HXR8.out (.cells #[.int .u32 4096] 23)
                    have hw5' : Sl u32R wY All (.slice (some ⟨aY, 0, none⟩) 1 1) [4096] := by rw [← hA, ← hsz]; exact hw5
                    refine Eq.mpr (congrArg (K _) hA) ?_
                    rw [hsz]
                    have HW5 := hid hw5'
                    clear hA hsz hw5 hw5'
                    have HXR9 := hid (HXR8.out.trans hER9)
                    have HN3 := hid (HN3.out.ext hER9)
                    have HF4 := hid (HF4.out.ext hER9)
                    clear hER9
                    refine hK.out _ _ (ext7 HC7.out HXR9.out) (fun hSR9 => ?_)
                    clear hK K
                    try simp only [Act.put, List.setIfInBounds_toArray, List.set_cons_zero, List.set_cons_succ]
                    refine wpAnyH_ready (rs := [56]) (by kernel_rfl) (by simp) ?_
                    refine (AllReadyH.consL rfl (fun K hK => ?Rb56x57) AllReadyH.nil)
                    case' Rb56x57 =>
                      go_simp
                      go_at_call 19
                      refine (words_any _ _ (Ext.refl _) A4 (some ⟨aY, 0, none⟩) 1 1 c4' 1 [4096] [4096] HF4.out HW5.out).mono ?_
                      rintro e w7 ⟨rfl, hER10⟩
                      rw [show decide (([4096] : List Nat) = [4096]) = true from rfl]
                      have HXR10 := hid (HXR9.out.trans hER10)
                      have HN3 := hid (HN3.out.ext hER10)
                      have HF4 := hid (HF4.out.ext hER10)
                      have HW5 := hid (HW5.out.ext hER10)
                      clear hER10
                      refine hK.out _ _ (ext7 HC7.out HXR10.out) (fun hSR10 => ?_)
                      clear hK K
                      try simp only [Act.put, List.setIfInBounds_toArray, List.set_cons_zero, List.set_cons_succ]
                      refine wpAnyH_takeL (i := 57) (v := ?Rv57x58) rfl (by kernel_rfl) (by kernel_rfl) (by kernel_rfl) (fun _ _ _ h => h) (Or.inl ⟨by rfl, ?Ry57x58⟩) (by assumption) ?Rr57x58
                      case Ry57x58 => first | (intro w hSw; (try dsimp only at hSw); go_simp; done) | (intro w hSw; (try dsimp only at hSw); go_simp; with_reducible rfl)
                      case' Rr57x58 => try simp only [Act.put, List.setIfInBounds_toArray, List.set_cons_zero, List.set_cons_succ]
                      refine wpAnyH_takeL (i := 58) (v := ?Rv58x59) rfl (by kernel_rfl) (by kernel_rfl) (by kernel_rfl) (fun _ _ _ h => h) (Or.inl ⟨by rfl, ?Ry58x59⟩) (by assumption) ?Rr58x59
                      case Ry58x59 => first | (intro w hSw; (try dsimp only at hSw); go_simp; done) | (intro w hSw; (try dsimp only at hSw); go_simp; with_reducible rfl)
                      case' Rr58x59 => try simp only [Act.put, List.setIfInBounds_toArray, List.set_cons_zero, List.set_cons_succ]
                      have HXend := HXR10
                      refine wpAnyH_done (by kernel_rfl) ?_ _
                case' Rb55x55 =>
                  go_simp
                  have hw5 := sl_litX HXR7.out [4096] (by decide) (by simp [maxLen]) 23
                  obtain ⟨wY, aY, hA, hsz, hER8⟩ := extAlloc HXR7.out (.cells #[.int .u32 4096] 23)
                  have hw5' : Sl u32R wY All (.slice (some ⟨aY, 0, none⟩) 1 1) [4096] := by rw [← hA, ← hsz]; exact hw5
                  refine Eq.mpr (congrArg (K _) hA) ?_
                  rw [hsz]
                  have HW5 := hid hw5'
                  clear hA hsz hw5 hw5'
                  have HXR8 := hid (HXR7.out.trans hER8)
                  have HN3 := hid (HN3.out.ext hER8)
                  clear hER8
                  refine hK.out _ _ (ext7 HC7.out HXR8.out) (fun hSR8 => ?_)
                  clear hK K
                  try simp only [Act.put, List.setIfInBounds_toArray, List.set_cons_zero, List.set_cons_succ]
                  refine wpAnyH_ready (rs := [54]) (by kernel_rfl) (by simp) ?_
                  refine (AllReadyH.consL rfl (fun K hK => ?Rb54x60) AllReadyH.nil)
                  case' Rb54x60 =>
                    go_simp
                    go_at_call 20
                    refine (syfuncs_any _ (some ⟨b0, 0, none⟩) 2 2 exL (HBX.out.ext HXR8.out) (by omega)).mono ?_
                    rintro e w5 ⟨hER9, A4, c4', rfl, hf4⟩
                    rw [ex_f] at hf4 ⊢
                    have HF4 := hid hf4
                    clear hf4
                    have HXR9 := hid (HXR8.out.trans hER9)
                    have HN3 := hid (HN3.out.ext hER9)
                    have HW5 := hid (HW5.out.ext hER9)
                    clear hER9
                    refine hK.out _ _ (ext7 HC7.out HXR9.out) (fun hSR9 => ?_)
                    clear hK K
                    try simp only [Act.put, List.setIfInBounds_toArray, List.set_cons_zero, List.set_cons_succ]
                    refine wpAnyH_ready (rs := [56]) (by kernel_rfl) (by simp) ?_
                    refine (AllReadyH.consL rfl (fun K hK => ?Rb56x61) AllReadyH.nil)
                    case' Rb56x61 =>
                      go_simp
                      go_at_call 19
                      refine (words_any _ _ (Ext.refl _) A4 (some ⟨aY, 0, none⟩) 1 1 c4' 1 [4096] [4096] HF4.out HW5.out).mono ?_
                      rintro e w7 ⟨rfl, hER10⟩
                      rw [show decide (([4096] : List Nat) = [4096]) = true from rfl]
                      have HXR10 := hid (HXR9.out.trans hER10)
                      have HN3 := hid (HN3.out.ext hER10)
                      have HW5 := hid (HW5.out.ext hER10)
                      have HF4 := hid (HF4.out.ext hER10)
                      clear hER10
                      refine hK.out _ _ (ext7 HC7.out HXR10.out) (fun hSR10 => ?_)
                      clear hK K
                      try simp only [Act.put, List.setIfInBounds_toArray, List.set_cons_zero, List.set_cons_succ]
                      refine wpAnyH_takeL (i := 57) (v := ?Rv57x62) rfl (by kernel_rfl) (by kernel_rfl) (by kernel_rfl) (fun _ _ _ h => h) (Or.inl ⟨by rfl, ?Ry57x62⟩) (by assumption) ?Rr57x62
                      case Ry57x62 => first | (intro w hSw; (try dsimp only at hSw); go_simp; done) | (intro w hSw; (try dsimp only at hSw); go_simp; with_reducible rfl)
                      case' Rr57x62 => try simp only [Act.put, List.setIfInBounds_toArray, List.set_cons_zero, List.set_cons_succ]
                      refine wpAnyH_takeL (i := 58) (v := ?Rv58x63) rfl (by kernel_rfl) (by kernel_rfl) (by kernel_rfl) (fun _ _ _ h => h) (Or.inl ⟨by rfl, ?Ry58x63⟩) (by assumption) ?Rr58x63
                      case Ry58x63 => first | (intro w hSw; (try dsimp only at hSw); go_simp; done) | (intro w hSw; (try dsimp only at hSw); go_simp; with_reducible rfl)
                      case' Rr58x63 => try simp only [Act.put, List.setIfInBounds_toArray, List.set_cons_zero, List.set_cons_succ]
                      have HXend := HXR10
                      refine wpAnyH_done (by kernel_rfl) ?_ _
  all_goals
    go_wp2
    go_ret
    exact ⟨rfl, HEX.out.trans HXend.out⟩
end Go.Proofs.YtekilcnkinmakaaDoor
