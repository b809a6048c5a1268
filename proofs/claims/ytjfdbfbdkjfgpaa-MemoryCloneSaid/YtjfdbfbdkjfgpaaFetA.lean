/- MemoryFetches: the walk of the statement. -/
import Derived.Test.YtjfdbfbdkjfgpaaLawC
import Derived.Test.YtjfdbfbdkjfgpaaR9F
import Derived.Test.YtjfdbfbdkjfgpaaR9G
import Derived.Test.YtjfdbfbdkjfgpaaStr
namespace Go.Proofs.Ytjfdbfbdkjfgpaa
open Go.RowKit Go.Deco
set_option linter.unusedSimpArgs false
set_option linter.unusedVariables false

/-- A memory whose own map block is looked after apart. -/
theorem MemAt.set {P : Program} {tk te : TypeId} {w1 w4 w' : World} {mb bm n1 n gr : Nat} {regs : List Reg} {M1 M : Nat → Option Nat} (h1 : MemAt P tk te w1 mb bm regs M1 n1) (h4 : MemAt P tk te w4 mb bm regs M n)
    (hk : ∀ b, b < w1.heap.size → b ≠ bm → w'.heap[b]? = w1.heap[b]?) (hg : w4.grownBy w' (some gr)) (hne : bm ≠ gr) : MemAt P tk te w' mb bm regs M n := by
  obtain ⟨A, c, D, c0, c1, s, o, _⟩ := h1
  obtain ⟨_, _, D4, _, _, _, o4, e4⟩ := h4
  have hb : ∀ b, IsCells w1 b → w'.heap[b]? = w1.heap[b]? := fun b hb => hk b hb.lt (fun e => by
    subst e
    obtain ⟨cc, e, f, h⟩ := hb
    obtain ⟨es, clock, h', _⟩ := o
    rw [h] at h'
    cases h')
  exact ⟨A, c, D4, (World.cell?_of_block (w := w1) (hb _ (isCells_of c0))).trans c0, (World.cell?_of_block (w := w1) (hb _ (isCells_of c1))).trans c1, s.keep fun b _ h => hb b h, o4.kept hg (by simpa using hne), e4⟩

theorem secs_lt {w : World} {A : Option Addr} {n c : Nat} {l : List Sec} (h : Sl secR w All (.slice A n c) l) : ∀ s ∈ l, ∀ x ∈ s.data, x < 256 := by
  intro s hs
  obtain ⟨k, hk, rfl⟩ := List.getElem_of_mem hs
  obtain ⟨b, off, dA, dc, _, hd, _⟩ := h.sec_at (List.getElem?_eq_getElem hk)
  exact hd.num_lt
theorem cells_lt {w : World} {S : Nat → Prop} {A : Option Addr} {n c : Nat} {cs : List (Nat × Nat)} (h : Sl cellR w S (.slice A n c) cs) : ∀ p ∈ cs, p.2 < 256 := by
  intro p hp
  obtain ⟨k, hk, rfl⟩ := List.getElem_of_mem hp
  obtain ⟨b, off, _, _, _, _, h2⟩ := Sl_cell_at h (List.getElem?_eq_getElem hk)
  exact h2

set_option maxRecDepth 100000 in
set_option maxHeartbeats 4000000 in
theorem fetches_any (w : World) (A : Option Addr) (n c : Nat) (l : List Sec) (hl : Sl secR w All (.slice A n c) l) (sk sw : Int) (sa sx : Nat)
    (hsw1 : -9223372036854775808 ≤ sw) (hsw2 : sw ≤ 9223372036854775807) (hsa : sa < 4294967296) (hsx : sx < 4294967296) (a : Nat) (ha : a < 4294967296) :
    Calls Try.prog 5 #[.slice A n c, .agg #[.int .i64 sk, .int .i64 sw, .int .u32 sa, .int .u32 sx], .int .u32 a] w (OneBool w true) := by
  have HL := hid hl; clear hl
  go_enter Try.func5, Try.ntmps5
  go_wp2_with fail
  obtain ⟨w0, hw0⟩ : ∃ w0, (w.alloc (Obj.cells #[.int .i64 sk, .int .i64 sw, .int .u32 sa, .int .u32 sx] 25)) = w0 := ⟨_, rfl⟩
  have hE : Ext w w0 := by rw [← hw0]; exact (Ext.refl w).alloc _
  have s1 : w0.cell? ⟨w.heap.size, 1, none⟩ = some (.int .i64 sw) := by rw [← hw0]; exact new_cells w [.int .i64 sk, .int .i64 sw, .int .u32 sa, .int .u32 sx] _ 1 _ rfl
  have s2 : w0.cell? ⟨w.heap.size, 2, none⟩ = some (.int .u32 sa) := by rw [← hw0]; exact new_cells w [.int .i64 sk, .int .i64 sw, .int .u32 sa, .int .u32 sx] _ 2 _ rfl
  have s3 : w0.cell? ⟨w.heap.size, 3, none⟩ = some (.int .u32 sx) := by rw [← hw0]; exact new_cells w [.int .i64 sk, .int .i64 sw, .int .u32 sa, .int .u32 sx] _ 3 _ rfl
  have hslt : w.heap.size < w0.heap.size := World.block_lt_of_cell? _ _ s1
  rw [hw0]
  have HS := hid (And.intro s1 (And.intro s2 s3))
  have HE := hid hE
  clear hw0 hE s1 s2 s3
  refine (few_any w0 A n c l (HL.out.ext HE.out)).mono ?_
  rintro e w' ⟨⟨b, rfl⟩, rfl⟩
  cases b
  case' false =>
    go_wp2_with fail
    refine (example_any _).mono ?_
    rintro e w1 ⟨rfl, hx⟩
    have HX := hid (HE.out.trans hx); clear hx
    go_wp2
    go_ret
    exact ⟨rfl, HX.out⟩
  go_wp2_with fail
  refine (new_any w0 A n c l (HL.out.ext HE.out)).mono ?_
  rintro e w1 ⟨hx1, ⟨h0, rfl⟩ | ⟨h0, mb, bm, rfl, hmb, hbm, hm⟩⟩
  · have H1 := hid (HE.out.trans hx1); clear hx1
    have h0' : ((secCheck l : Int) != 0) = true := by simpa using h0
    obtain ⟨er, her⟩ : ∃ er, secCheck l = er := ⟨_, rfl⟩
    rw [her] at h0'
    rw [her]
    clear h0 her
    go_wp2_with fail
    refine (example_any _).mono ?_
    rintro e w2 ⟨rfl, hx⟩
    have HX := hid (H1.out.trans hx); clear hx
    go_wp2
    go_ret
    exact ⟨rfl, HX.out⟩
  have H1 := hid hx1; clear hx1
  have HM := hid hm; clear hm
  have HSC := hid h0; clear h0
  go_wp2_with fail
  refine (new9_any w1 A n c l (HL.out.ext (HE.out.trans H1.out))).mono ?_
  rintro e w2 ⟨hx2, ⟨h0, -⟩ | ⟨-, LA, lc, rfl, hL⟩⟩
  · exact absurd HSC.out h0
  have HX2 := hid hx2
  have HSL := hid hL
  clear hx2 hL
  obtain ⟨t1, t2, t3⟩ := HS.out
  have s1 := (H1.out.trans HX2.out).cell t1
  have s2 := (H1.out.trans HX2.out).cell t2
  have s3 := (H1.out.trans HX2.out).cell t3
  have hs2 : w.heap.size < w2.heap.size := World.block_lt_of_cell? _ _ s1
  clear t1 t2 t3
  go_wp2_with fail
  obtain ⟨w3, hw3⟩ : ∃ w3, w2.alloc (Obj.cells #[.bool true, .slice LA l.length lc, .slice none 0 0] 45) = w3 := ⟨_, rfl⟩
  have hE3 : Ext w2 w3 := by rw [← hw3]; exact (Ext.refl w2).alloc _
  have r0 : w3.cell? ⟨w2.heap.size, 0, none⟩ = some (.bool true) := by rw [← hw3]; simp
  have r1 : w3.cell? ⟨w2.heap.size, 1, none⟩ = some (.slice LA l.length lc) := by rw [← hw3]; simp
  have r2 : w3.cell? ⟨w2.heap.size, 2, none⟩ = some (.slice none 0 0) := by rw [← hw3]; simp
  have fr : ∀ j, w3.frozen? ⟨w2.heap.size, j, none⟩ = false := by intro j; rw [← hw3]; simp
  rw [hw3]
  clear hw3 s1 s2 s3
  have hE13 := HX2.out.trans hE3
  have HE13 := hid hE13
  have HE3 := hid hE3
  have hglt : w2.heap.size < w3.heap.size := World.block_lt_of_cell? _ _ r0
  have hbmlt : bm < w1.heap.size := by obtain ⟨_, _, _, _, _, _, ho, _⟩ := HM.out; exact ho.lt
  have hbg : bm ≠ w2.heap.size := by have := HX2.out.size; omega
  have H3 := hid (H1.out.trans hE13)
  have HM3 := hid (HM.out.ext hE13)
  have HR3 := hid (And.intro r0 (And.intro r1 (And.intro r2 fr)))
  clear r0 r1 r2 fr hE3 hE13
  refine (store_any w3 mb bm 0 _ _ HM3.out (by omega) sa hsa sw hsw1 hsw2 sx).mono ?_
  rintro e w4 ⟨rfl, hm4, hg4⟩
  have hbw : w0.heap.size ≤ bm := hbm
  have H4 := hid (H3.out.grown hg4 (fun j hj => by cases hj; exact hbw))
  obtain ⟨M, hM⟩ : ∃ M, storeMap (regsOf l) (fun _ => none) sa sw sx = M := ⟨_, rfl⟩
  rw [hM] at hm4
  have HMM := hid hM
  have HM4 := hid hm4
  have HG4 := hid hg4
  have hown3 := HM3.out
  obtain ⟨_, _, D3, -, -, -, hown3, -⟩ := hown3
  have HOW := hid hown3
  obtain ⟨r0, r1, r2, fr⟩ := HR3.out
  have r0 := cell_map hown3 hg4 r0
  have r1 := cell_map hown3 hg4 r1
  have r2 := cell_map hown3 hg4 r2
  have hfz : ∀ j, w4.frozen? ⟨w2.heap.size, j, none⟩ = false := fun j => (World.frozen?_of_block (hg4.block _ hglt (by simpa using fun e => hbg e.symm))).trans (fr j)
  have HFZ := hid hfz
  have HSL4 := hid (((HSL.out.mono (S' := fun b => b < w2.heap.size) (fun b _ hb => hb.lt)).ext HE3.out).keep (w' := w4) (fun b _ hb => keep_map hown3 hg4 hb))
  obtain ⟨t1, t2, t3⟩ := HS.out
  have s1 := H4.out.cell t1
  have s2 := H4.out.cell t2
  have s3 := H4.out.cell t3
  have hsz4 : w2.heap.size < w4.heap.size := Nat.lt_of_lt_of_le hglt hg4.size
  clear t1 t2 t3 fr hfz hown3 hg4 hm4 hM
  go_wp2_with fail
  refine (store9_any w4 w4 (Ext.refl _) LA l.length lc l HSL4.out.all HSC.out none 0 0 [] (fun _ => False) Sl.nil (by omega) sa hsa sw hsw1 hsw2 sx hsx).mono ?_
  rintro e w5 ⟨hx5, CA, cc, rfl, hC⟩
  have HX5 := hid hx5
  have HC5 := hid hC
  have r0 := hx5.cell r0
  have r1 := hx5.cell r1
  have r2 := hx5.cell r2
  have f0 := (hx5.frozen (p := ⟨w2.heap.size, 0, none⟩) hsz4).trans (HFZ.out 0)
  have f1 := (hx5.frozen (p := ⟨w2.heap.size, 1, none⟩) hsz4).trans (HFZ.out 1)
  have f2 := (hx5.frozen (p := ⟨w2.heap.size, 2, none⟩) hsz4).trans (HFZ.out 2)
  clear hx5 hC s1 s2 s3
  obtain ⟨CS, hCS⟩ : ∃ CS, storeCells (regsOf l) [] sa sw sx = CS := ⟨_, rfl⟩
  have hlook : lookIn CS = M := by rw [← hCS, storeCells_look List.Pairwise.nil, ← HMM.out]; rfl
  have HLOOK := hid hlook
  rw [hCS] at HC5
  rw [hCS]
  clear hCS hlook
  have hs5 : w2.heap.size < w5.heap.size := World.block_lt_of_cell? _ _ r0
  go_wp2_with fail
  obtain ⟨w6, hw6⟩ : ∃ w6, ((w5.setCell ⟨w2.heap.size, 0, none⟩ (.bool true)).setCell ⟨w2.heap.size, 1, none⟩ (.slice LA l.length lc)).setCell ⟨w2.heap.size, 2, none⟩ (.slice CA CS.length cc) = w6 := ⟨_, rfl⟩
  have e0 : w6.cell? ⟨w2.heap.size, 0, none⟩ = some (.bool true) := by rw [← hw6]; simp [World.cell?_setCell_same, World.cell?_setCell_other, r0]
  have e1 : w6.cell? ⟨w2.heap.size, 1, none⟩ = some (.slice LA l.length lc) := by rw [← hw6]; simp [World.cell?_setCell_same, World.cell?_setCell_other, r1]
  have e2 : w6.cell? ⟨w2.heap.size, 2, none⟩ = some (.slice CA CS.length cc) := by rw [← hw6]; simp [World.cell?_setCell_same, World.cell?_setCell_other, r2]
  have hb6 : ∀ b, b ≠ w2.heap.size → w6.heap[b]? = w5.heap[b]? := fun b hb => by rw [← hw6, Below.heap_setCell _ _ _ _ (by simpa using hb), Below.heap_setCell _ _ _ _ (by simpa using hb), Below.heap_setCell _ _ _ _ (by simpa using hb)]
  have hg6 : w4.grownBy w6 (some w2.heap.size) := by
    rw [← hw6]
    exact grownBy_same (grownBy_same (grownBy_same (HX5.out.grownBy _) (grownBy_set _ _ _)) (grownBy_set _ _ _)) (grownBy_set _ _ _)
  have hm6 : Mem w6 mb bm (regsOf l) M 4 := MemAt.set HM.out HM4.out (fun b hb hne => by
    have h12 := HX2.out.size
    have h23 := HE3.out.size
    have h34 := HG4.out.size
    rw [hb6 b (by omega), HX5.out.block (by omega), HG4.out.block b (by omega) (by simpa using hne), HE13.out.block hb]) hg6 hbg
  have hx6 : Ext w0 w6 := by
    rw [← hw6]
    have hw02 := (H1.out.trans HX2.out).size
    exact (((H4.out.trans HX5.out).setCell hw02 _).setCell hw02 _).setCell hw02 _
  have HL6 := hid (((HSL4.out.ext HX5.out).keep (w' := w6) (fun b hb _ => hb6 b (by omega))).all)
  have HC6 := hid ((HC5.out.keep (w' := w6) (fun b hb _ => hb6 b (by rcases hb with h | h; exact h.elim; omega))).all)
  rw [hw6]
  have HM6 := hid hm6
  have H6 := hid hx6
  clear hw6 hm6 hx6 hg6 hb6 f0 f1 f2 r0 r1 r2 HM3 HM4
  obtain ⟨X, hX⟩ : ∃ X, fetchOf (regsOf l) M a = X := ⟨_, rfl⟩
  have HX := hid hX
  refine (fetch_any w6 mb bm 4 _ _ HM6.out a ha).mono ?_
  rintro e w7 ⟨hx7, v7, rfl, hs7⟩
  rw [hX] at hs7
  rw [hX]
  have HX7 := hid hx7
  have HS7 := hid hs7
  have q0 := hx7.cell e0
  have q1 := hx7.cell e1
  have q2 := hx7.cell e2
  clear hX hx7 hs7 e0 e1 e2
  go_wp2_with fail
  refine (fetch9_any w6 w7 HX7.out LA l.length lc l HL6.out HSC.out CA CS.length cc CS HC6.out (preOf_lt (secs_lt HL.out) (cells_lt HC6.out)) a ha).mono ?_
  rintro e w8 ⟨hx8, v8, rfl, hs8⟩
  rw [HLOOK.out, HX.out] at hs8
  rw [HLOOK.out, HX.out]
  have cv1 := run_str (P := Try.prog) 49 9 5 Try.underlying49 Try.underlying5 Try.underlying9 (HS7.out.ext hx8)
  have cv2 := run_str (P := Try.prog) 49 9 5 Try.underlying49 Try.underlying5 Try.underlying9 hs8
  have HX8 := hid (H6.out.trans (HX7.out.trans hx8))
  clear hx8 hs8 q0 q1 q2
  obtain ⟨Y, hY⟩ : ∃ Y, strOf X.1 = Y := ⟨_, rfl⟩
  rw [hY] at cv1 cv2
  clear hY
  have hyy : (Y.toList == Y.toList) = true := by simp
  have hxx : ((X.2 : Int) == (X.2 : Int)) = true := by simp
  go_wp2_with fail
  refine (example_any _).mono ?_
  rintro e wz ⟨rfl, hx⟩
  have HX := hid (HE.out.trans (HX8.out.trans hx)); clear hx
  go_wp2
  go_ret
  exact ⟨rfl, HX.out⟩
end Go.Proofs.Ytjfdbfbdkjfgpaa
