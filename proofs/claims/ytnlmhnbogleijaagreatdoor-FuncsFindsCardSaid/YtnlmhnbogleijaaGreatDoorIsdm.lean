/- isa: kept. isa: check, Length, Next, Ends; cfg.ends. isa: Length, Next, Ends; cfg.ends. -/
import Derived.Test.YtnlmhnbogleijaaGreatDoorIsam
import Derived.Test.YtnlmhnbogleijaaGreatDoorReg
namespace Go.Proofs.YtnlmhnbogleijaaGreatDoor
open Go.RowKit Go.Deco
set_option linter.unusedSimpArgs false
set_option linter.unusedVariables false

/-- A box of nine cells that may be written. -/
structure Box9F (lo : Nat) (w : World) (b : Nat) (i : In) : Prop where
  bx : Box9 w b i
  fz : ∀ j, w.frozen? ⟨b, j, none⟩ = false
  lt : b < w.heap.size
  ge : lo ≤ b
theorem Box9F.ext {lo : Nat} {w w' : World} {b : Nat} {i : In} (h : Box9F lo w b i) (he : Ext w w') : Box9F lo w' b i :=
  ⟨h.bx.ext he, fun j => (he.frozen (p := ⟨b, j, none⟩) h.lt).trans (h.fz j), Nat.lt_of_lt_of_le h.lt he.size, h.ge⟩
theorem Box9F.drew {lo : Nat} {w : World} {b : Nat} {i : In} (h : Box9F lo w b i) : Box9F lo w.drew b i := h.ext (Ext.refl w).drew
theorem Box9F.far {lo : Nat} {w : World} {b : Nat} {i : In} (h : Box9F lo w b i) {p : Addr} (hp : p.block ≠ b) (u : Value) : Box9F lo (w.setCell p u) b i := by
  have e : ∀ j, p ≠ (⟨b, j, none⟩ : Addr) := fun j h => hp (congrArg Addr.block h)
  have h' := h.bx
  exact ⟨⟨(World.cell?_setCell_other _ _ _ _ (e 0)).trans h'.c0, (World.cell?_setCell_other _ _ _ _ (e 1)).trans h'.c1, (World.cell?_setCell_other _ _ _ _ (e 2)).trans h'.c2, (World.cell?_setCell_other _ _ _ _ (e 3)).trans h'.c3, (World.cell?_setCell_other _ _ _ _ (e 4)).trans h'.c4, (World.cell?_setCell_other _ _ _ _ (e 5)).trans h'.c5, (World.cell?_setCell_other _ _ _ _ (e 6)).trans h'.c6, (World.cell?_setCell_other _ _ _ _ (e 7)).trans h'.c7, (World.cell?_setCell_other _ _ _ _ (e 8)).trans h'.c8⟩,
    fun j => by rw [World.frozen?_setCell]; exact h.fz j, by simpa using h.lt, h.ge⟩
theorem Box9F.put1 {lo : Nat} {w : World} {b : Nat} {i : In} (h : Box9F lo w b i) (v : Nat) : Box9F lo (w.setCell ⟨b, 1, none⟩ (.int .u32 v)) b { i with imm := v } := by
  obtain ⟨⟨h0, h1, h2, h3, h4, h5, h6, h7, h8⟩, hf, hl, hg⟩ := h
  refine ⟨⟨?_, ?_, ?_, ?_, ?_, ?_, ?_, ?_, ?_⟩, fun j => by rw [World.frozen?_setCell]; exact hf j, by simpa using hl, hg⟩ <;> simp [World.cell?_setCell_same, World.cell?_setCell_other, h0, h1, h2, h3, h4, h5, h6, h7, h8]
theorem Box9F.put3 {lo : Nat} {w : World} {b : Nat} {i : In} (h : Box9F lo w b i) (v : Int) : Box9F lo (w.setCell ⟨b, 3, none⟩ (.int .i64 v)) b { i with form := v } := by
  obtain ⟨⟨h0, h1, h2, h3, h4, h5, h6, h7, h8⟩, hf, hl, hg⟩ := h
  refine ⟨⟨?_, ?_, ?_, ?_, ?_, ?_, ?_, ?_, ?_⟩, fun j => by rw [World.frozen?_setCell]; exact hf j, by simpa using hl, hg⟩ <;> simp [World.cell?_setCell_same, World.cell?_setCell_other, h0, h1, h2, h3, h4, h5, h6, h7, h8]
theorem Box9F.put5 {lo : Nat} {w : World} {b : Nat} {i : In} (h : Box9F lo w b i) (v : Int) : Box9F lo (w.setCell ⟨b, 5, none⟩ (.int .i64 v)) b { i with cc := v } := by
  obtain ⟨⟨h0, h1, h2, h3, h4, h5, h6, h7, h8⟩, hf, hl, hg⟩ := h
  refine ⟨⟨?_, ?_, ?_, ?_, ?_, ?_, ?_, ?_, ?_⟩, fun j => by rw [World.frozen?_setCell]; exact hf j, by simpa using hl, hg⟩ <;> simp [World.cell?_setCell_same, World.cell?_setCell_other, h0, h1, h2, h3, h4, h5, h6, h7, h8]
theorem Box9F.put6 {lo : Nat} {w : World} {b : Nat} {i : In} (h : Box9F lo w b i) (v : Int) : Box9F lo (w.setCell ⟨b, 6, none⟩ (.int .i64 v)) b { i with a := v } := by
  obtain ⟨⟨h0, h1, h2, h3, h4, h5, h6, h7, h8⟩, hf, hl, hg⟩ := h
  refine ⟨⟨?_, ?_, ?_, ?_, ?_, ?_, ?_, ?_, ?_⟩, fun j => by rw [World.frozen?_setCell]; exact hf j, by simpa using hl, hg⟩ <;> simp [World.cell?_setCell_same, World.cell?_setCell_other, h0, h1, h2, h3, h4, h5, h6, h7, h8]
theorem Box9F.put7 {lo : Nat} {w : World} {b : Nat} {i : In} (h : Box9F lo w b i) (v : Int) : Box9F lo (w.setCell ⟨b, 7, none⟩ (.int .i64 v)) b { i with b := v } := by
  obtain ⟨⟨h0, h1, h2, h3, h4, h5, h6, h7, h8⟩, hf, hl, hg⟩ := h
  refine ⟨⟨?_, ?_, ?_, ?_, ?_, ?_, ?_, ?_, ?_⟩, fun j => by rw [World.frozen?_setCell]; exact hf j, by simpa using hl, hg⟩ <;> simp [World.cell?_setCell_same, World.cell?_setCell_other, h0, h1, h2, h3, h4, h5, h6, h7, h8]
theorem Box9F.new (lo : Nat) (w : World) (i : In) (t : TypeId) (hlo : lo ≤ w.heap.size) : Box9F lo (w.alloc (.cells #[.int .u32 i.addr, .int .u32 i.imm, .int .i64 i.op, .int .i64 i.form, .int .i64 i.width, .int .i64 i.cc, .int .i64 i.a, .int .i64 i.b, .int .i64 i.size] t)) w.heap.size i :=
  ⟨Box9.new w i t, fun j => by simp [go_sem], by simp, hlo⟩
theorem extc3 {w w' : World} {p0 p1 p2 : Addr} {u0 u1 u2 : Value} (h : w.cell? p0 = some u0 ∧ w.cell? p1 = some u1 ∧ w.cell? p2 = some u2) (he : Ext w w') : w'.cell? p0 = some u0 ∧ w'.cell? p1 = some u1 ∧ w'.cell? p2 = some u2 :=
  ⟨he.cell h.1, he.cell h.2.1, he.cell h.2.2⟩
theorem move3 {w w' : World} {p0 p1 p2 : Addr} {u0 u1 u2 : Value} (h : w.cell? p0 = some u0 ∧ w.cell? p1 = some u1 ∧ w.cell? p2 = some u2) (e : w = w') : w'.cell? p0 = some u0 ∧ w'.cell? p1 = some u1 ∧ w'.cell? p2 = some u2 := e ▸ h
theorem Box9F.move {lo : Nat} {w w' : World} {b : Nat} {i : In} (h : Box9F lo w b i) (e : w = w') : Box9F lo w' b i := e ▸ h
theorem Box9.far {w : World} {b : Nat} {i : In} (h' : Box9 w b i) {p : Addr} (hp : p.block ≠ b) (u : Value) : Box9 (w.setCell p u) b i := by
  have e : ∀ j, p ≠ (⟨b, j, none⟩ : Addr) := fun j h => hp (congrArg Addr.block h)
  exact ⟨(World.cell?_setCell_other _ _ _ _ (e 0)).trans h'.c0, (World.cell?_setCell_other _ _ _ _ (e 1)).trans h'.c1, (World.cell?_setCell_other _ _ _ _ (e 2)).trans h'.c2, (World.cell?_setCell_other _ _ _ _ (e 3)).trans h'.c3, (World.cell?_setCell_other _ _ _ _ (e 4)).trans h'.c4, (World.cell?_setCell_other _ _ _ _ (e 5)).trans h'.c5, (World.cell?_setCell_other _ _ _ _ (e 6)).trans h'.c6, (World.cell?_setCell_other _ _ _ _ (e 7)).trans h'.c7, (World.cell?_setCell_other _ _ _ _ (e 8)).trans h'.c8⟩
theorem far3 {w : World} {b j0 j1 j2 : Nat} {u0 u1 u2 : Value} {q : Addr} (hq : q.block ≠ b) (u : Value) (h : w.cell? ⟨b, j0, none⟩ = some u0 ∧ w.cell? ⟨b, j1, none⟩ = some u1 ∧ w.cell? ⟨b, j2, none⟩ = some u2) :
    (w.setCell q u).cell? ⟨b, j0, none⟩ = some u0 ∧ (w.setCell q u).cell? ⟨b, j1, none⟩ = some u1 ∧ (w.setCell q u).cell? ⟨b, j2, none⟩ = some u2 :=
  ⟨(World.cell?_setCell_other _ _ _ _ (fun e => hq (congrArg Addr.block e))).trans h.1, (World.cell?_setCell_other _ _ _ _ (fun e => hq (congrArg Addr.block e))).trans h.2.1, (World.cell?_setCell_other _ _ _ _ (fun e => hq (congrArg Addr.block e))).trans h.2.2⟩

set_option maxRecDepth 100000 in
set_option maxHeartbeats 8000000 in
theorem kept_any (w : World) (i : In) (s : Nat) (hs : opShape i = some s) : Calls Tryz.prog 103 #[inV i, .int .i64 s] w fun e w' => e = .returned (inV (keptI i s)) ∧ Ext w w' := by
  obtain ⟨k, hk⟩ : ∃ k, keptI i s = k := ⟨_, rfl⟩
  have HK := hid hk
  rw [hk]
  have e : inV i = .agg #[.int .u32 i.addr, .int .u32 i.imm, .int .i64 i.op, .int .i64 i.form, .int .i64 i.width, .int .i64 i.cc, .int .i64 i.a, .int .i64 i.b, .int .i64 i.size] := rfl
  rw [e]
  obtain ⟨ad, im, op, fo, wd, cc, a, b, sz⟩ := i
  have HS := hid hs
  clear hs hk e
  dsimp only
  obtain ⟨W0, hW0⟩ : ∃ W0, (w.alloc (.cells #[.int .u32 ad, .int .u32 im, .int .i64 op, .int .i64 fo, .int .i64 wd, .int .i64 cc, .int .i64 a, .int .i64 b, .int .i64 sz] 77)).alloc (.cells #[.int .u32 0, .int .u32 0, .int .i64 0, .int .i64 0, .int .i64 0, .int .i64 0, .int .i64 0, .int .i64 0, .int .i64 0] 77) = W0 := ⟨_, rfl⟩
  obtain ⟨W1, hW1⟩ : ∃ W1, W0.alloc (.cells #[.int .u32 ad, .int .u32 0, .int .i64 op, .int .i64 0, .int .i64 0, .int .i64 0, .int .i64 0, .int .i64 0, .int .i64 sz] 77) = W1 := ⟨_, rfl⟩
  obtain ⟨p, hp⟩ : ∃ p, w.heap.size = p := ⟨_, rfl⟩
  have hs0 : W0.heap.size = p + 2 := by rw [← hW0, ← hp]; simp
  have hE0 : Ext w W0 := by rw [← hW0]; exact ((Ext.refl w).alloc _).alloc _
  have hE1 : Ext w W1 := by rw [← hW1]; exact hE0.alloc _
  have hB : Box9 W0 p ⟨ad, im, op, fo, wd, cc, a, b, sz⟩ := by
    rw [← hW0, ← hp]
    exact (Box9.new w ⟨ad, im, op, fo, wd, cc, a, b, sz⟩ 77).ext ((Ext.refl _).alloc _)
  have hT : Box9F p W0 (p + 1) In.zero := by
    have := Box9F.new p (w.alloc (.cells #[.int .u32 ad, .int .u32 im, .int .i64 op, .int .i64 fo, .int .i64 wd, .int .i64 cc, .int .i64 a, .int .i64 b, .int .i64 sz] 77)) In.zero 77 (by simp; omega)
    rw [World.size_alloc, hp] at this
    rw [← hW0]
    exact this
  have hZ : Box9F p W1 (p + 2) ⟨ad, 0, op, 0, 0, 0, 0, 0, sz⟩ := by
    have := Box9F.new p W0 ⟨ad, 0, op, 0, 0, 0, 0, 0, sz⟩ 77 (by omega)
    rw [hs0] at this
    rw [← hW1]
    exact this
  have hX1 : Ext W0 W1 := by rw [← hW1]; exact (Ext.refl W0).alloc _
  have HB := hid (hB.ext hX1)
  have HT := hid (hT.ext hX1)
  have HZ := hid hZ
  have HE := hid hE1
  obtain ⟨c0, c1, c2, c3, c4, c5, c6, c7, c8⟩ := hB
  clear hE0 hE1 hT hZ hX1
  go_enter Tryz.func103, Tryz.ntmps103
  obtain ⟨d0, d1, d2, d3, d4, d5, d6, d7, d8⟩ := HB.out
  obtain ⟨⟨y0, y1, y2, y3, y4, y5, y6, y7, y8⟩, yf, -, -⟩ := HZ.out
  obtain ⟨⟨t0, t1, t2, t3, t4, t5, t6, t7, t8⟩, tf, -, -⟩ := HT.out
  have hle1 : w.heap.size ≤ p + 1 := by omega
  have hle2 : w.heap.size ≤ p + 2 := by omega
  have HSC := hid (And.intro d6 (And.intro d7 d1))
  have HSC2 := hid (And.intro d2 (And.intro d3 d4))
  have hx5 : True := trivial
  by_cases z0 : op = 0
  case pos =>
    subst z0
    obtain rfl : s = 0 := by have := HS.out; simp [opShape] at this; omega
    go_wp2
    have hk := HK.out
    simp [keptI, keptS, hle1] at hk
    subst hk
    refine bodyPost_ret (v := inV _) (by simp [results, Tryz.results103, go_sem, World.cell?_setCell_same, World.cell?_setCell_other, inV, t0, t1, t2, t3, t4, t5, t6, t7, t8]) rfl ⟨rfl, ?_⟩
    repeat (refine Ext.setCell ?_ (by first | exact hle1 | exact hle2) _)
    exact HE.out
  have n0 : (op == 0) = false := by simpa using z0
  by_cases z1 : op = 1
  case pos =>
    subst z1
    obtain rfl : s = 0 := by have := HS.out; simp [opShape] at this; omega
    go_wp2
    have hk := HK.out
    simp [keptI, keptS, hle1] at hk
    subst hk
    refine bodyPost_ret (v := inV _) (by simp [results, Tryz.results103, go_sem, World.cell?_setCell_same, World.cell?_setCell_other, inV, t0, t1, t2, t3, t4, t5, t6, t7, t8]) rfl ⟨rfl, ?_⟩
    repeat (refine Ext.setCell ?_ (by first | exact hle1 | exact hle2) _)
    exact HE.out
  have n1 : (op == 1) = false := by simpa using z1
  by_cases z2 : op = 2
  case pos =>
    subst z2
    obtain rfl : s = 0 := by have := HS.out; simp [opShape] at this; omega
    go_wp2
    have hk := HK.out
    simp [keptI, keptS, hle1] at hk
    subst hk
    refine bodyPost_ret (v := inV _) (by simp [results, Tryz.results103, go_sem, World.cell?_setCell_same, World.cell?_setCell_other, inV, t0, t1, t2, t3, t4, t5, t6, t7, t8]) rfl ⟨rfl, ?_⟩
    repeat (refine Ext.setCell ?_ (by first | exact hle1 | exact hle2) _)
    exact HE.out
  have n2 : (op == 2) = false := by simpa using z2
  by_cases z3 : op = 3
  case pos =>
    subst z3
    obtain rfl : s = 1 := by have := HS.out; simp [opShape] at this; omega
    go_wp2
    have hk := HK.out
    simp [keptI, keptS, hle1] at hk
    subst hk
    refine bodyPost_ret (v := inV _) (by simp [results, Tryz.results103, go_sem, World.cell?_setCell_same, World.cell?_setCell_other, inV, t0, t1, t2, t3, t4, t5, t6, t7, t8]) rfl ⟨rfl, ?_⟩
    repeat (refine Ext.setCell ?_ (by first | exact hle1 | exact hle2) _)
    exact HE.out
  have n3 : (op == 3) = false := by simpa using z3
  by_cases z4 : op = 4
  case pos =>
    subst z4
    obtain rfl : s = 1 := by have := HS.out; simp [opShape] at this; omega
    go_wp2
    have hk := HK.out
    simp [keptI, keptS, hle1] at hk
    subst hk
    refine bodyPost_ret (v := inV _) (by simp [results, Tryz.results103, go_sem, World.cell?_setCell_same, World.cell?_setCell_other, inV, t0, t1, t2, t3, t4, t5, t6, t7, t8]) rfl ⟨rfl, ?_⟩
    repeat (refine Ext.setCell ?_ (by first | exact hle1 | exact hle2) _)
    exact HE.out
  have n4 : (op == 4) = false := by simpa using z4
  by_cases z16 : op = 16
  case pos =>
    subst z16
    obtain rfl : s = 5 := by have := HS.out; simp [opShape] at this; omega
    go_wp2_with fail
    clear d0 d1 d2 d3 d4 d5 d6 d7 d8 t0 t1 t2 t3 t4 t5 t6 t7 t8 tf
    have HZ := hid HZ.out.drew
    have HT := hid HT.out.drew
    have HEW := hid HE.out.drew
    have HSC := hid (extc3 HSC.out (Ext.refl W1).drew)
    have HSC2 := hid (extc3 HSC2.out (Ext.refl W1).drew)
    have HXg1q_0 := hid ((Ext.refl W1).drew)
    refine wp_region_held_drew (S := (fun w' => w'.cell? ⟨p, 6, none⟩ = some (.int .i64 a) ∧ w'.cell? ⟨p, 7, none⟩ = some (.int .i64 b) ∧ w'.cell? ⟨p, 1, none⟩ = some (.int .u32 im))) (by kernel_rfl) HSC.out (fun hSg1q0 => ?_)
    refine wpAnyH_takeL (i := 0) (v := ?g1qv0x1) rfl (by kernel_rfl) (by kernel_rfl) (by kernel_rfl) (fun _ _ _ h => h) (Or.inl ⟨by rfl, ?g1qy0x1⟩) (by assumption) ?g1qr0x1
    case g1qy0x1 => first | (intro w hSw; (try dsimp only at hSw); go_simp; done) | (intro w hSw; (try dsimp only at hSw); go_simp; with_reducible rfl)
    case' g1qr0x1 => try simp only [Act.put, List.setIfInBounds_toArray, List.set_cons_zero, List.set_cons_succ]
    refine wpAnyH_takeL (i := 1) (v := ?g1qv1x2) rfl (by kernel_rfl) (by kernel_rfl) (by kernel_rfl) (fun _ _ _ h => h) (Or.inl ⟨by rfl, ?g1qy1x2⟩) (by assumption) ?g1qr1x2
    case g1qy1x2 => first | (intro w hSw; (try dsimp only at hSw); go_simp; done) | (intro w hSw; (try dsimp only at hSw); go_simp; with_reducible rfl)
    case' g1qr1x2 => try simp only [Act.put, List.setIfInBounds_toArray, List.set_cons_zero, List.set_cons_succ]
    refine wpAnyH_takeL (i := 2) (v := ?g1qv2x3) rfl (by kernel_rfl) (by kernel_rfl) (by kernel_rfl) (fun _ _ _ h => h) (Or.inl ⟨by rfl, ?g1qy2x3⟩) (by assumption) ?g1qr2x3
    case g1qy2x3 => first | (intro w hSw; (try dsimp only at hSw); go_simp; done) | (intro w hSw; (try dsimp only at hSw); go_simp; with_reducible rfl)
    case' g1qr2x3 => try simp only [Act.put, List.setIfInBounds_toArray, List.set_cons_zero, List.set_cons_succ]
    refine wpAnyH_takeL (i := 3) (v := ?g1qv3x4) rfl (by kernel_rfl) (by kernel_rfl) (by kernel_rfl) (fun _ _ _ h => h) (Or.inl ⟨by rfl, ?g1qy3x4⟩) (by assumption) ?g1qr3x4
    case g1qy3x4 => first | (intro w hSw; (try dsimp only at hSw); go_simp; done) | (intro w hSw; (try dsimp only at hSw); go_simp; with_reducible rfl)
    case' g1qr3x4 => try simp only [Act.put, List.setIfInBounds_toArray, List.set_cons_zero, List.set_cons_succ]
    refine wpAnyH_takeL (i := 4) (v := ?g1qv4x5) rfl (by kernel_rfl) (by kernel_rfl) (by kernel_rfl) (fun _ _ _ h => h) (Or.inl ⟨by rfl, ?g1qy4x5⟩) (by assumption) ?g1qr4x5
    case g1qy4x5 => first | (intro w hSw; (try dsimp only at hSw); go_simp; done) | (intro w hSw; (try dsimp only at hSw); go_simp; with_reducible rfl)
    case' g1qr4x5 => try simp only [Act.put, List.setIfInBounds_toArray, List.set_cons_zero, List.set_cons_succ]
    refine wpAnyH_takeL (i := 5) (v := ?g1qv5x6) rfl (by kernel_rfl) (by kernel_rfl) (by kernel_rfl) (fun _ _ _ h => h) (Or.inl ⟨by rfl, ?g1qy5x6⟩) (by assumption) ?g1qr5x6
    case g1qy5x6 => first | (intro w hSw; (try dsimp only at hSw); go_simp; done) | (intro w hSw; (try dsimp only at hSw); go_simp; with_reducible rfl)
    case' g1qr5x6 => try simp only [Act.put, List.setIfInBounds_toArray, List.set_cons_zero, List.set_cons_succ]
    refine wpAnyH_takeL (i := 6) (v := ?g1qv6x7) rfl (by kernel_rfl) (by kernel_rfl) (by kernel_rfl) (fun _ _ _ h => h) (Or.inl ⟨by rfl, ?g1qy6x7⟩) (by assumption) ?g1qr6x7
    case g1qy6x7 => first | (intro w hSw; (try dsimp only at hSw); go_simp; done) | (intro w hSw; (try dsimp only at hSw); go_simp; with_reducible rfl)
    case' g1qr6x7 => try simp only [Act.put, List.setIfInBounds_toArray, List.set_cons_zero, List.set_cons_succ]
    refine wpAnyH_ready (rs := [7]) (by kernel_rfl) (by simp) ?_
    refine (AllReadyH.consL rfl (fun K hK => ?g1qb7x8) AllReadyH.nil)
    case' g1qb7x8 =>
      go_simp
      have HZ := hid ((HZ.out).put6 a)
      have HT := hid (HT.out.far (p := ⟨p + 2, 6, none⟩) (by show p + 2 ≠ p + 1; omega) (.int .i64 a))
      have HEW := hid (Ext.setCell (p := ⟨p + 2, 6, none⟩) HEW.out hle2 (.int .i64 a))
      have HSC := hid (far3 (q := ⟨p + 2, 6, none⟩) (by show p + 2 ≠ p; omega) (.int .i64 a) HSC.out)
      have HSC2 := hid (far3 (q := ⟨p + 2, 6, none⟩) (by show p + 2 ≠ p; omega) (.int .i64 a) HSC2.out)
      have HXg1q_1 := HEW
      have HXend := HEW
      refine hK.out _ _ HSC.out (fun hSg1q1 => ?_)
      clear hK K
      try simp only [Act.put, List.setIfInBounds_toArray, List.set_cons_zero, List.set_cons_succ]
      refine wpAnyH_takeL (i := 8) (v := ?g1qv8x9) rfl (by kernel_rfl) (by kernel_rfl) (by kernel_rfl) (fun _ _ _ h => h) (Or.inl ⟨by rfl, ?g1qy8x9⟩) (by assumption) ?g1qr8x9
      case g1qy8x9 => first | (intro w hSw; (try dsimp only at hSw); go_simp; done) | (intro w hSw; (try dsimp only at hSw); go_simp; with_reducible rfl)
      case' g1qr8x9 => try simp only [Act.put, List.setIfInBounds_toArray, List.set_cons_zero, List.set_cons_succ]
      refine wpAnyH_ready (rs := [9]) (by kernel_rfl) (by simp) ?_
      refine (AllReadyH.consL rfl (fun K hK => ?g1qb9x10) AllReadyH.nil)
      case' g1qb9x10 =>
        go_simp
        have HZ := hid ((HZ.out).put7 b)
        have HT := hid (HT.out.far (p := ⟨p + 2, 7, none⟩) (by show p + 2 ≠ p + 1; omega) (.int .i64 b))
        have HEW := hid (Ext.setCell (p := ⟨p + 2, 7, none⟩) HEW.out hle2 (.int .i64 b))
        have HSC := hid (far3 (q := ⟨p + 2, 7, none⟩) (by show p + 2 ≠ p; omega) (.int .i64 b) HSC.out)
        have HSC2 := hid (far3 (q := ⟨p + 2, 7, none⟩) (by show p + 2 ≠ p; omega) (.int .i64 b) HSC2.out)
        have HXg1q_2 := HEW
        have HXend := HEW
        refine hK.out _ _ HSC.out (fun hSg1q2 => ?_)
        clear hK K
        try simp only [Act.put, List.setIfInBounds_toArray, List.set_cons_zero, List.set_cons_succ]
        refine wpAnyH_takeL (i := 10) (v := ?g1qv10x11) rfl (by kernel_rfl) (by kernel_rfl) (by kernel_rfl) (fun _ _ _ h => h) (Or.inl ⟨by rfl, ?g1qy10x11⟩) (by assumption) ?g1qr10x11
        case g1qy10x11 => first | (intro w hSw; (try dsimp only at hSw); go_simp; done) | (intro w hSw; (try dsimp only at hSw); go_simp; with_reducible rfl)
        case' g1qr10x11 => try simp only [Act.put, List.setIfInBounds_toArray, List.set_cons_zero, List.set_cons_succ]
        refine wpAnyH_ready (rs := [11]) (by kernel_rfl) (by simp) ?_
        refine (AllReadyH.consL rfl (fun K hK => ?g1qb11x12) AllReadyH.nil)
        case' g1qb11x12 =>
          go_simp
          have HZ := hid ((HZ.out).put1 im)
          have HT := hid (HT.out.far (p := ⟨p + 2, 1, none⟩) (by show p + 2 ≠ p + 1; omega) (.int .u32 im))
          have HEW := hid (Ext.setCell (p := ⟨p + 2, 1, none⟩) HEW.out hle2 (.int .u32 im))
          have HSC := hid (far3 (q := ⟨p + 2, 1, none⟩) (by show p + 2 ≠ p; omega) (.int .u32 im) HSC.out)
          have HSC2 := hid (far3 (q := ⟨p + 2, 1, none⟩) (by show p + 2 ≠ p; omega) (.int .u32 im) HSC2.out)
          have HXg1q_3 := HEW
          have HXend := HEW
          refine hK.out _ _ HSC.out (fun hSg1q3 => ?_)
          clear hK K
          try simp only [Act.put, List.setIfInBounds_toArray, List.set_cons_zero, List.set_cons_succ]
          refine wpAnyH_done (by kernel_rfl) ?_ _
          generalize hW9 : World.drew _ = W9
          have HZ9 := hid (Box9F.move HZ.out hW9)
          have HT9 := hid (Box9F.move HT.out hW9)
          have HE9 : Hid (Ext w W9) := hid (by rw [← hW9]; exact HXend.out)
          obtain ⟨e0, e1, e2⟩ := move3 HSC2.out hW9
          clear hW9 HZ HT HXend HEW
          obtain ⟨⟨y0, y1, y2, y3, y4, y5, y6, y7, y8⟩, yf, -, -⟩ := HZ9.out
          obtain ⟨⟨t0, t1, t2, t3, t4, t5, t6, t7, t8⟩, tf, -, -⟩ := HT9.out
          go_wp2
          have hk := HK.out
          simp [keptI, keptS, hx5] at hk
          subst hk
          refine bodyPost_ret (v := inV _) (by simp [results, Tryz.results103, go_sem, World.cell?_setCell_same, World.cell?_setCell_other, inV, t0, t1, t2, t3, t4, t5, t6, t7, t8]) rfl ⟨rfl, ?_⟩
          repeat (refine Ext.setCell ?_ (by first | exact hle1 | exact hle2) _)
          exact HE9.out
  have n16 : (op == 16) = false := by simpa using z16
  by_cases z17 : op = 17
  case pos =>
    subst z17
    obtain rfl : s = 5 := by have := HS.out; simp [opShape] at this; omega
    go_wp2_with fail
    clear d0 d1 d2 d3 d4 d5 d6 d7 d8 t0 t1 t2 t3 t4 t5 t6 t7 t8 tf
    have HZ := hid HZ.out.drew
    have HT := hid HT.out.drew
    have HEW := hid HE.out.drew
    have HSC := hid (extc3 HSC.out (Ext.refl W1).drew)
    have HSC2 := hid (extc3 HSC2.out (Ext.refl W1).drew)
    have HXg2q_0 := hid ((Ext.refl W1).drew)
    refine wp_region_held_drew (S := (fun w' => w'.cell? ⟨p, 6, none⟩ = some (.int .i64 a) ∧ w'.cell? ⟨p, 7, none⟩ = some (.int .i64 b) ∧ w'.cell? ⟨p, 1, none⟩ = some (.int .u32 im))) (by kernel_rfl) HSC.out (fun hSg2q0 => ?_)
    refine wpAnyH_takeL (i := 0) (v := ?g2qv0x1) rfl (by kernel_rfl) (by kernel_rfl) (by kernel_rfl) (fun _ _ _ h => h) (Or.inl ⟨by rfl, ?g2qy0x1⟩) (by assumption) ?g2qr0x1
    case g2qy0x1 => first | (intro w hSw; (try dsimp only at hSw); go_simp; done) | (intro w hSw; (try dsimp only at hSw); go_simp; with_reducible rfl)
    case' g2qr0x1 => try simp only [Act.put, List.setIfInBounds_toArray, List.set_cons_zero, List.set_cons_succ]
    refine wpAnyH_takeL (i := 1) (v := ?g2qv1x2) rfl (by kernel_rfl) (by kernel_rfl) (by kernel_rfl) (fun _ _ _ h => h) (Or.inl ⟨by rfl, ?g2qy1x2⟩) (by assumption) ?g2qr1x2
    case g2qy1x2 => first | (intro w hSw; (try dsimp only at hSw); go_simp; done) | (intro w hSw; (try dsimp only at hSw); go_simp; with_reducible rfl)
    case' g2qr1x2 => try simp only [Act.put, List.setIfInBounds_toArray, List.set_cons_zero, List.set_cons_succ]
    refine wpAnyH_takeL (i := 2) (v := ?g2qv2x3) rfl (by kernel_rfl) (by kernel_rfl) (by kernel_rfl) (fun _ _ _ h => h) (Or.inl ⟨by rfl, ?g2qy2x3⟩) (by assumption) ?g2qr2x3
    case g2qy2x3 => first | (intro w hSw; (try dsimp only at hSw); go_simp; done) | (intro w hSw; (try dsimp only at hSw); go_simp; with_reducible rfl)
    case' g2qr2x3 => try simp only [Act.put, List.setIfInBounds_toArray, List.set_cons_zero, List.set_cons_succ]
    refine wpAnyH_takeL (i := 3) (v := ?g2qv3x4) rfl (by kernel_rfl) (by kernel_rfl) (by kernel_rfl) (fun _ _ _ h => h) (Or.inl ⟨by rfl, ?g2qy3x4⟩) (by assumption) ?g2qr3x4
    case g2qy3x4 => first | (intro w hSw; (try dsimp only at hSw); go_simp; done) | (intro w hSw; (try dsimp only at hSw); go_simp; with_reducible rfl)
    case' g2qr3x4 => try simp only [Act.put, List.setIfInBounds_toArray, List.set_cons_zero, List.set_cons_succ]
    refine wpAnyH_takeL (i := 4) (v := ?g2qv4x5) rfl (by kernel_rfl) (by kernel_rfl) (by kernel_rfl) (fun _ _ _ h => h) (Or.inl ⟨by rfl, ?g2qy4x5⟩) (by assumption) ?g2qr4x5
    case g2qy4x5 => first | (intro w hSw; (try dsimp only at hSw); go_simp; done) | (intro w hSw; (try dsimp only at hSw); go_simp; with_reducible rfl)
    case' g2qr4x5 => try simp only [Act.put, List.setIfInBounds_toArray, List.set_cons_zero, List.set_cons_succ]
    refine wpAnyH_takeL (i := 5) (v := ?g2qv5x6) rfl (by kernel_rfl) (by kernel_rfl) (by kernel_rfl) (fun _ _ _ h => h) (Or.inl ⟨by rfl, ?g2qy5x6⟩) (by assumption) ?g2qr5x6
    case g2qy5x6 => first | (intro w hSw; (try dsimp only at hSw); go_simp; done) | (intro w hSw; (try dsimp only at hSw); go_simp; with_reducible rfl)
    case' g2qr5x6 => try simp only [Act.put, List.setIfInBounds_toArray, List.set_cons_zero, List.set_cons_succ]
    refine wpAnyH_takeL (i := 6) (v := ?g2qv6x7) rfl (by kernel_rfl) (by kernel_rfl) (by kernel_rfl) (fun _ _ _ h => h) (Or.inl ⟨by rfl, ?g2qy6x7⟩) (by assumption) ?g2qr6x7
    case g2qy6x7 => first | (intro w hSw; (try dsimp only at hSw); go_simp; done) | (intro w hSw; (try dsimp only at hSw); go_simp; with_reducible rfl)
    case' g2qr6x7 => try simp only [Act.put, List.setIfInBounds_toArray, List.set_cons_zero, List.set_cons_succ]
    refine wpAnyH_ready (rs := [7]) (by kernel_rfl) (by simp) ?_
    refine (AllReadyH.consL rfl (fun K hK => ?g2qb7x8) AllReadyH.nil)
    case' g2qb7x8 =>
      go_simp
      have HZ := hid ((HZ.out).put6 a)
      have HT := hid (HT.out.far (p := ⟨p + 2, 6, none⟩) (by show p + 2 ≠ p + 1; omega) (.int .i64 a))
      have HEW := hid (Ext.setCell (p := ⟨p + 2, 6, none⟩) HEW.out hle2 (.int .i64 a))
      have HSC := hid (far3 (q := ⟨p + 2, 6, none⟩) (by show p + 2 ≠ p; omega) (.int .i64 a) HSC.out)
      have HSC2 := hid (far3 (q := ⟨p + 2, 6, none⟩) (by show p + 2 ≠ p; omega) (.int .i64 a) HSC2.out)
      have HXg2q_1 := HEW
      have HXend := HEW
      refine hK.out _ _ HSC.out (fun hSg2q1 => ?_)
      clear hK K
      try simp only [Act.put, List.setIfInBounds_toArray, List.set_cons_zero, List.set_cons_succ]
      refine wpAnyH_takeL (i := 8) (v := ?g2qv8x9) rfl (by kernel_rfl) (by kernel_rfl) (by kernel_rfl) (fun _ _ _ h => h) (Or.inl ⟨by rfl, ?g2qy8x9⟩) (by assumption) ?g2qr8x9
      case g2qy8x9 => first | (intro w hSw; (try dsimp only at hSw); go_simp; done) | (intro w hSw; (try dsimp only at hSw); go_simp; with_reducible rfl)
      case' g2qr8x9 => try simp only [Act.put, List.setIfInBounds_toArray, List.set_cons_zero, List.set_cons_succ]
      refine wpAnyH_ready (rs := [9]) (by kernel_rfl) (by simp) ?_
      refine (AllReadyH.consL rfl (fun K hK => ?g2qb9x10) AllReadyH.nil)
      case' g2qb9x10 =>
        go_simp
        have HZ := hid ((HZ.out).put7 b)
        have HT := hid (HT.out.far (p := ⟨p + 2, 7, none⟩) (by show p + 2 ≠ p + 1; omega) (.int .i64 b))
        have HEW := hid (Ext.setCell (p := ⟨p + 2, 7, none⟩) HEW.out hle2 (.int .i64 b))
        have HSC := hid (far3 (q := ⟨p + 2, 7, none⟩) (by show p + 2 ≠ p; omega) (.int .i64 b) HSC.out)
        have HSC2 := hid (far3 (q := ⟨p + 2, 7, none⟩) (by show p + 2 ≠ p; omega) (.int .i64 b) HSC2.out)
        have HXg2q_2 := HEW
        have HXend := HEW
        refine hK.out _ _ HSC.out (fun hSg2q2 => ?_)
        clear hK K
        try simp only [Act.put, List.setIfInBounds_toArray, List.set_cons_zero, List.set_cons_succ]
        refine wpAnyH_takeL (i := 10) (v := ?g2qv10x11) rfl (by kernel_rfl) (by kernel_rfl) (by kernel_rfl) (fun _ _ _ h => h) (Or.inl ⟨by rfl, ?g2qy10x11⟩) (by assumption) ?g2qr10x11
        case g2qy10x11 => first | (intro w hSw; (try dsimp only at hSw); go_simp; done) | (intro w hSw; (try dsimp only at hSw); go_simp; with_reducible rfl)
        case' g2qr10x11 => try simp only [Act.put, List.setIfInBounds_toArray, List.set_cons_zero, List.set_cons_succ]
        refine wpAnyH_ready (rs := [11]) (by kernel_rfl) (by simp) ?_
        refine (AllReadyH.consL rfl (fun K hK => ?g2qb11x12) AllReadyH.nil)
        case' g2qb11x12 =>
          go_simp
          have HZ := hid ((HZ.out).put1 im)
          have HT := hid (HT.out.far (p := ⟨p + 2, 1, none⟩) (by show p + 2 ≠ p + 1; omega) (.int .u32 im))
          have HEW := hid (Ext.setCell (p := ⟨p + 2, 1, none⟩) HEW.out hle2 (.int .u32 im))
          have HSC := hid (far3 (q := ⟨p + 2, 1, none⟩) (by show p + 2 ≠ p; omega) (.int .u32 im) HSC.out)
          have HSC2 := hid (far3 (q := ⟨p + 2, 1, none⟩) (by show p + 2 ≠ p; omega) (.int .u32 im) HSC2.out)
          have HXg2q_3 := HEW
          have HXend := HEW
          refine hK.out _ _ HSC.out (fun hSg2q3 => ?_)
          clear hK K
          try simp only [Act.put, List.setIfInBounds_toArray, List.set_cons_zero, List.set_cons_succ]
          refine wpAnyH_done (by kernel_rfl) ?_ _
          generalize hW9 : World.drew _ = W9
          have HZ9 := hid (Box9F.move HZ.out hW9)
          have HT9 := hid (Box9F.move HT.out hW9)
          have HE9 : Hid (Ext w W9) := hid (by rw [← hW9]; exact HXend.out)
          obtain ⟨e0, e1, e2⟩ := move3 HSC2.out hW9
          clear hW9 HZ HT HXend HEW
          obtain ⟨⟨y0, y1, y2, y3, y4, y5, y6, y7, y8⟩, yf, -, -⟩ := HZ9.out
          obtain ⟨⟨t0, t1, t2, t3, t4, t5, t6, t7, t8⟩, tf, -, -⟩ := HT9.out
          go_wp2
          have hk := HK.out
          simp [keptI, keptS, hx5] at hk
          subst hk
          refine bodyPost_ret (v := inV _) (by simp [results, Tryz.results103, go_sem, World.cell?_setCell_same, World.cell?_setCell_other, inV, t0, t1, t2, t3, t4, t5, t6, t7, t8]) rfl ⟨rfl, ?_⟩
          repeat (refine Ext.setCell ?_ (by first | exact hle1 | exact hle2) _)
          exact HE9.out
  have n17 : (op == 17) = false := by simpa using z17
  by_cases z18 : op = 18
  case pos =>
    subst z18
    obtain rfl : s = 5 := by have := HS.out; simp [opShape] at this; omega
    go_wp2_with fail
    clear d0 d1 d2 d3 d4 d5 d6 d7 d8 t0 t1 t2 t3 t4 t5 t6 t7 t8 tf
    have HZ := hid HZ.out.drew
    have HT := hid HT.out.drew
    have HEW := hid HE.out.drew
    have HSC := hid (extc3 HSC.out (Ext.refl W1).drew)
    have HSC2 := hid (extc3 HSC2.out (Ext.refl W1).drew)
    have HXg3q_0 := hid ((Ext.refl W1).drew)
    refine wp_region_held_drew (S := (fun w' => w'.cell? ⟨p, 6, none⟩ = some (.int .i64 a) ∧ w'.cell? ⟨p, 7, none⟩ = some (.int .i64 b) ∧ w'.cell? ⟨p, 1, none⟩ = some (.int .u32 im))) (by kernel_rfl) HSC.out (fun hSg3q0 => ?_)
    refine wpAnyH_takeL (i := 0) (v := ?g3qv0x1) rfl (by kernel_rfl) (by kernel_rfl) (by kernel_rfl) (fun _ _ _ h => h) (Or.inl ⟨by rfl, ?g3qy0x1⟩) (by assumption) ?g3qr0x1
    case g3qy0x1 => first | (intro w hSw; (try dsimp only at hSw); go_simp; done) | (intro w hSw; (try dsimp only at hSw); go_simp; with_reducible rfl)
    case' g3qr0x1 => try simp only [Act.put, List.setIfInBounds_toArray, List.set_cons_zero, List.set_cons_succ]
    refine wpAnyH_takeL (i := 1) (v := ?g3qv1x2) rfl (by kernel_rfl) (by kernel_rfl) (by kernel_rfl) (fun _ _ _ h => h) (Or.inl ⟨by rfl, ?g3qy1x2⟩) (by assumption) ?g3qr1x2
    case g3qy1x2 => first | (intro w hSw; (try dsimp only at hSw); go_simp; done) | (intro w hSw; (try dsimp only at hSw); go_simp; with_reducible rfl)
    case' g3qr1x2 => try simp only [Act.put, List.setIfInBounds_toArray, List.set_cons_zero, List.set_cons_succ]
    refine wpAnyH_takeL (i := 2) (v := ?g3qv2x3) rfl (by kernel_rfl) (by kernel_rfl) (by kernel_rfl) (fun _ _ _ h => h) (Or.inl ⟨by rfl, ?g3qy2x3⟩) (by assumption) ?g3qr2x3
    case g3qy2x3 => first | (intro w hSw; (try dsimp only at hSw); go_simp; done) | (intro w hSw; (try dsimp only at hSw); go_simp; with_reducible rfl)
    case' g3qr2x3 => try simp only [Act.put, List.setIfInBounds_toArray, List.set_cons_zero, List.set_cons_succ]
    refine wpAnyH_takeL (i := 3) (v := ?g3qv3x4) rfl (by kernel_rfl) (by kernel_rfl) (by kernel_rfl) (fun _ _ _ h => h) (Or.inl ⟨by rfl, ?g3qy3x4⟩) (by assumption) ?g3qr3x4
    case g3qy3x4 => first | (intro w hSw; (try dsimp only at hSw); go_simp; done) | (intro w hSw; (try dsimp only at hSw); go_simp; with_reducible rfl)
    case' g3qr3x4 => try simp only [Act.put, List.setIfInBounds_toArray, List.set_cons_zero, List.set_cons_succ]
    refine wpAnyH_takeL (i := 4) (v := ?g3qv4x5) rfl (by kernel_rfl) (by kernel_rfl) (by kernel_rfl) (fun _ _ _ h => h) (Or.inl ⟨by rfl, ?g3qy4x5⟩) (by assumption) ?g3qr4x5
    case g3qy4x5 => first | (intro w hSw; (try dsimp only at hSw); go_simp; done) | (intro w hSw; (try dsimp only at hSw); go_simp; with_reducible rfl)
    case' g3qr4x5 => try simp only [Act.put, List.setIfInBounds_toArray, List.set_cons_zero, List.set_cons_succ]
    refine wpAnyH_takeL (i := 5) (v := ?g3qv5x6) rfl (by kernel_rfl) (by kernel_rfl) (by kernel_rfl) (fun _ _ _ h => h) (Or.inl ⟨by rfl, ?g3qy5x6⟩) (by assumption) ?g3qr5x6
    case g3qy5x6 => first | (intro w hSw; (try dsimp only at hSw); go_simp; done) | (intro w hSw; (try dsimp only at hSw); go_simp; with_reducible rfl)
    case' g3qr5x6 => try simp only [Act.put, List.setIfInBounds_toArray, List.set_cons_zero, List.set_cons_succ]
    refine wpAnyH_takeL (i := 6) (v := ?g3qv6x7) rfl (by kernel_rfl) (by kernel_rfl) (by kernel_rfl) (fun _ _ _ h => h) (Or.inl ⟨by rfl, ?g3qy6x7⟩) (by assumption) ?g3qr6x7
    case g3qy6x7 => first | (intro w hSw; (try dsimp only at hSw); go_simp; done) | (intro w hSw; (try dsimp only at hSw); go_simp; with_reducible rfl)
    case' g3qr6x7 => try simp only [Act.put, List.setIfInBounds_toArray, List.set_cons_zero, List.set_cons_succ]
    refine wpAnyH_ready (rs := [7]) (by kernel_rfl) (by simp) ?_
    refine (AllReadyH.consL rfl (fun K hK => ?g3qb7x8) AllReadyH.nil)
    case' g3qb7x8 =>
      go_simp
      have HZ := hid ((HZ.out).put6 a)
      have HT := hid (HT.out.far (p := ⟨p + 2, 6, none⟩) (by show p + 2 ≠ p + 1; omega) (.int .i64 a))
      have HEW := hid (Ext.setCell (p := ⟨p + 2, 6, none⟩) HEW.out hle2 (.int .i64 a))
      have HSC := hid (far3 (q := ⟨p + 2, 6, none⟩) (by show p + 2 ≠ p; omega) (.int .i64 a) HSC.out)
      have HSC2 := hid (far3 (q := ⟨p + 2, 6, none⟩) (by show p + 2 ≠ p; omega) (.int .i64 a) HSC2.out)
      have HXg3q_1 := HEW
      have HXend := HEW
      refine hK.out _ _ HSC.out (fun hSg3q1 => ?_)
      clear hK K
      try simp only [Act.put, List.setIfInBounds_toArray, List.set_cons_zero, List.set_cons_succ]
      refine wpAnyH_takeL (i := 8) (v := ?g3qv8x9) rfl (by kernel_rfl) (by kernel_rfl) (by kernel_rfl) (fun _ _ _ h => h) (Or.inl ⟨by rfl, ?g3qy8x9⟩) (by assumption) ?g3qr8x9
      case g3qy8x9 => first | (intro w hSw; (try dsimp only at hSw); go_simp; done) | (intro w hSw; (try dsimp only at hSw); go_simp; with_reducible rfl)
      case' g3qr8x9 => try simp only [Act.put, List.setIfInBounds_toArray, List.set_cons_zero, List.set_cons_succ]
      refine wpAnyH_ready (rs := [9]) (by kernel_rfl) (by simp) ?_
      refine (AllReadyH.consL rfl (fun K hK => ?g3qb9x10) AllReadyH.nil)
      case' g3qb9x10 =>
        go_simp
        have HZ := hid ((HZ.out).put7 b)
        have HT := hid (HT.out.far (p := ⟨p + 2, 7, none⟩) (by show p + 2 ≠ p + 1; omega) (.int .i64 b))
        have HEW := hid (Ext.setCell (p := ⟨p + 2, 7, none⟩) HEW.out hle2 (.int .i64 b))
        have HSC := hid (far3 (q := ⟨p + 2, 7, none⟩) (by show p + 2 ≠ p; omega) (.int .i64 b) HSC.out)
        have HSC2 := hid (far3 (q := ⟨p + 2, 7, none⟩) (by show p + 2 ≠ p; omega) (.int .i64 b) HSC2.out)
        have HXg3q_2 := HEW
        have HXend := HEW
        refine hK.out _ _ HSC.out (fun hSg3q2 => ?_)
        clear hK K
        try simp only [Act.put, List.setIfInBounds_toArray, List.set_cons_zero, List.set_cons_succ]
        refine wpAnyH_takeL (i := 10) (v := ?g3qv10x11) rfl (by kernel_rfl) (by kernel_rfl) (by kernel_rfl) (fun _ _ _ h => h) (Or.inl ⟨by rfl, ?g3qy10x11⟩) (by assumption) ?g3qr10x11
        case g3qy10x11 => first | (intro w hSw; (try dsimp only at hSw); go_simp; done) | (intro w hSw; (try dsimp only at hSw); go_simp; with_reducible rfl)
        case' g3qr10x11 => try simp only [Act.put, List.setIfInBounds_toArray, List.set_cons_zero, List.set_cons_succ]
        refine wpAnyH_ready (rs := [11]) (by kernel_rfl) (by simp) ?_
        refine (AllReadyH.consL rfl (fun K hK => ?g3qb11x12) AllReadyH.nil)
        case' g3qb11x12 =>
          go_simp
          have HZ := hid ((HZ.out).put1 im)
          have HT := hid (HT.out.far (p := ⟨p + 2, 1, none⟩) (by show p + 2 ≠ p + 1; omega) (.int .u32 im))
          have HEW := hid (Ext.setCell (p := ⟨p + 2, 1, none⟩) HEW.out hle2 (.int .u32 im))
          have HSC := hid (far3 (q := ⟨p + 2, 1, none⟩) (by show p + 2 ≠ p; omega) (.int .u32 im) HSC.out)
          have HSC2 := hid (far3 (q := ⟨p + 2, 1, none⟩) (by show p + 2 ≠ p; omega) (.int .u32 im) HSC2.out)
          have HXg3q_3 := HEW
          have HXend := HEW
          refine hK.out _ _ HSC.out (fun hSg3q3 => ?_)
          clear hK K
          try simp only [Act.put, List.setIfInBounds_toArray, List.set_cons_zero, List.set_cons_succ]
          refine wpAnyH_done (by kernel_rfl) ?_ _
          generalize hW9 : World.drew _ = W9
          have HZ9 := hid (Box9F.move HZ.out hW9)
          have HT9 := hid (Box9F.move HT.out hW9)
          have HE9 : Hid (Ext w W9) := hid (by rw [← hW9]; exact HXend.out)
          obtain ⟨e0, e1, e2⟩ := move3 HSC2.out hW9
          clear hW9 HZ HT HXend HEW
          obtain ⟨⟨y0, y1, y2, y3, y4, y5, y6, y7, y8⟩, yf, -, -⟩ := HZ9.out
          obtain ⟨⟨t0, t1, t2, t3, t4, t5, t6, t7, t8⟩, tf, -, -⟩ := HT9.out
          go_wp2
          have hk := HK.out
          simp [keptI, keptS, hx5] at hk
          subst hk
          refine bodyPost_ret (v := inV _) (by simp [results, Tryz.results103, go_sem, World.cell?_setCell_same, World.cell?_setCell_other, inV, t0, t1, t2, t3, t4, t5, t6, t7, t8]) rfl ⟨rfl, ?_⟩
          repeat (refine Ext.setCell ?_ (by first | exact hle1 | exact hle2) _)
          exact HE9.out
  have n18 : (op == 18) = false := by simpa using z18
  by_cases z19 : op = 19
  case pos =>
    subst z19
    obtain rfl : s = 5 := by have := HS.out; simp [opShape] at this; omega
    go_wp2_with fail
    clear d0 d1 d2 d3 d4 d5 d6 d7 d8 t0 t1 t2 t3 t4 t5 t6 t7 t8 tf
    have HZ := hid HZ.out.drew
    have HT := hid HT.out.drew
    have HEW := hid HE.out.drew
    have HSC := hid (extc3 HSC.out (Ext.refl W1).drew)
    have HSC2 := hid (extc3 HSC2.out (Ext.refl W1).drew)
    have HXg4q_0 := hid ((Ext.refl W1).drew)
    refine wp_region_held_drew (S := (fun w' => w'.cell? ⟨p, 6, none⟩ = some (.int .i64 a) ∧ w'.cell? ⟨p, 7, none⟩ = some (.int .i64 b) ∧ w'.cell? ⟨p, 1, none⟩ = some (.int .u32 im))) (by kernel_rfl) HSC.out (fun hSg4q0 => ?_)
    refine wpAnyH_takeL (i := 0) (v := ?g4qv0x1) rfl (by kernel_rfl) (by kernel_rfl) (by kernel_rfl) (fun _ _ _ h => h) (Or.inl ⟨by rfl, ?g4qy0x1⟩) (by assumption) ?g4qr0x1
    case g4qy0x1 => first | (intro w hSw; (try dsimp only at hSw); go_simp; done) | (intro w hSw; (try dsimp only at hSw); go_simp; with_reducible rfl)
    case' g4qr0x1 => try simp only [Act.put, List.setIfInBounds_toArray, List.set_cons_zero, List.set_cons_succ]
    refine wpAnyH_takeL (i := 1) (v := ?g4qv1x2) rfl (by kernel_rfl) (by kernel_rfl) (by kernel_rfl) (fun _ _ _ h => h) (Or.inl ⟨by rfl, ?g4qy1x2⟩) (by assumption) ?g4qr1x2
    case g4qy1x2 => first | (intro w hSw; (try dsimp only at hSw); go_simp; done) | (intro w hSw; (try dsimp only at hSw); go_simp; with_reducible rfl)
    case' g4qr1x2 => try simp only [Act.put, List.setIfInBounds_toArray, List.set_cons_zero, List.set_cons_succ]
    refine wpAnyH_takeL (i := 2) (v := ?g4qv2x3) rfl (by kernel_rfl) (by kernel_rfl) (by kernel_rfl) (fun _ _ _ h => h) (Or.inl ⟨by rfl, ?g4qy2x3⟩) (by assumption) ?g4qr2x3
    case g4qy2x3 => first | (intro w hSw; (try dsimp only at hSw); go_simp; done) | (intro w hSw; (try dsimp only at hSw); go_simp; with_reducible rfl)
    case' g4qr2x3 => try simp only [Act.put, List.setIfInBounds_toArray, List.set_cons_zero, List.set_cons_succ]
    refine wpAnyH_takeL (i := 3) (v := ?g4qv3x4) rfl (by kernel_rfl) (by kernel_rfl) (by kernel_rfl) (fun _ _ _ h => h) (Or.inl ⟨by rfl, ?g4qy3x4⟩) (by assumption) ?g4qr3x4
    case g4qy3x4 => first | (intro w hSw; (try dsimp only at hSw); go_simp; done) | (intro w hSw; (try dsimp only at hSw); go_simp; with_reducible rfl)
    case' g4qr3x4 => try simp only [Act.put, List.setIfInBounds_toArray, List.set_cons_zero, List.set_cons_succ]
    refine wpAnyH_takeL (i := 4) (v := ?g4qv4x5) rfl (by kernel_rfl) (by kernel_rfl) (by kernel_rfl) (fun _ _ _ h => h) (Or.inl ⟨by rfl, ?g4qy4x5⟩) (by assumption) ?g4qr4x5
    case g4qy4x5 => first | (intro w hSw; (try dsimp only at hSw); go_simp; done) | (intro w hSw; (try dsimp only at hSw); go_simp; with_reducible rfl)
    case' g4qr4x5 => try simp only [Act.put, List.setIfInBounds_toArray, List.set_cons_zero, List.set_cons_succ]
    refine wpAnyH_takeL (i := 5) (v := ?g4qv5x6) rfl (by kernel_rfl) (by kernel_rfl) (by kernel_rfl) (fun _ _ _ h => h) (Or.inl ⟨by rfl, ?g4qy5x6⟩) (by assumption) ?g4qr5x6
    case g4qy5x6 => first | (intro w hSw; (try dsimp only at hSw); go_simp; done) | (intro w hSw; (try dsimp only at hSw); go_simp; with_reducible rfl)
    case' g4qr5x6 => try simp only [Act.put, List.setIfInBounds_toArray, List.set_cons_zero, List.set_cons_succ]
    refine wpAnyH_takeL (i := 6) (v := ?g4qv6x7) rfl (by kernel_rfl) (by kernel_rfl) (by kernel_rfl) (fun _ _ _ h => h) (Or.inl ⟨by rfl, ?g4qy6x7⟩) (by assumption) ?g4qr6x7
    case g4qy6x7 => first | (intro w hSw; (try dsimp only at hSw); go_simp; done) | (intro w hSw; (try dsimp only at hSw); go_simp; with_reducible rfl)
    case' g4qr6x7 => try simp only [Act.put, List.setIfInBounds_toArray, List.set_cons_zero, List.set_cons_succ]
    refine wpAnyH_ready (rs := [7]) (by kernel_rfl) (by simp) ?_
    refine (AllReadyH.consL rfl (fun K hK => ?g4qb7x8) AllReadyH.nil)
    case' g4qb7x8 =>
      go_simp
      have HZ := hid ((HZ.out).put6 a)
      have HT := hid (HT.out.far (p := ⟨p + 2, 6, none⟩) (by show p + 2 ≠ p + 1; omega) (.int .i64 a))
      have HEW := hid (Ext.setCell (p := ⟨p + 2, 6, none⟩) HEW.out hle2 (.int .i64 a))
      have HSC := hid (far3 (q := ⟨p + 2, 6, none⟩) (by show p + 2 ≠ p; omega) (.int .i64 a) HSC.out)
      have HSC2 := hid (far3 (q := ⟨p + 2, 6, none⟩) (by show p + 2 ≠ p; omega) (.int .i64 a) HSC2.out)
      have HXg4q_1 := HEW
      have HXend := HEW
      refine hK.out _ _ HSC.out (fun hSg4q1 => ?_)
      clear hK K
      try simp only [Act.put, List.setIfInBounds_toArray, List.set_cons_zero, List.set_cons_succ]
      refine wpAnyH_takeL (i := 8) (v := ?g4qv8x9) rfl (by kernel_rfl) (by kernel_rfl) (by kernel_rfl) (fun _ _ _ h => h) (Or.inl ⟨by rfl, ?g4qy8x9⟩) (by assumption) ?g4qr8x9
      case g4qy8x9 => first | (intro w hSw; (try dsimp only at hSw); go_simp; done) | (intro w hSw; (try dsimp only at hSw); go_simp; with_reducible rfl)
      case' g4qr8x9 => try simp only [Act.put, List.setIfInBounds_toArray, List.set_cons_zero, List.set_cons_succ]
      refine wpAnyH_ready (rs := [9]) (by kernel_rfl) (by simp) ?_
      refine (AllReadyH.consL rfl (fun K hK => ?g4qb9x10) AllReadyH.nil)
      case' g4qb9x10 =>
        go_simp
        have HZ := hid ((HZ.out).put7 b)
        have HT := hid (HT.out.far (p := ⟨p + 2, 7, none⟩) (by show p + 2 ≠ p + 1; omega) (.int .i64 b))
        have HEW := hid (Ext.setCell (p := ⟨p + 2, 7, none⟩) HEW.out hle2 (.int .i64 b))
        have HSC := hid (far3 (q := ⟨p + 2, 7, none⟩) (by show p + 2 ≠ p; omega) (.int .i64 b) HSC.out)
        have HSC2 := hid (far3 (q := ⟨p + 2, 7, none⟩) (by show p + 2 ≠ p; omega) (.int .i64 b) HSC2.out)
        have HXg4q_2 := HEW
        have HXend := HEW
        refine hK.out _ _ HSC.out (fun hSg4q2 => ?_)
        clear hK K
        try simp only [Act.put, List.setIfInBounds_toArray, List.set_cons_zero, List.set_cons_succ]
        refine wpAnyH_takeL (i := 10) (v := ?g4qv10x11) rfl (by kernel_rfl) (by kernel_rfl) (by kernel_rfl) (fun _ _ _ h => h) (Or.inl ⟨by rfl, ?g4qy10x11⟩) (by assumption) ?g4qr10x11
        case g4qy10x11 => first | (intro w hSw; (try dsimp only at hSw); go_simp; done) | (intro w hSw; (try dsimp only at hSw); go_simp; with_reducible rfl)
        case' g4qr10x11 => try simp only [Act.put, List.setIfInBounds_toArray, List.set_cons_zero, List.set_cons_succ]
        refine wpAnyH_ready (rs := [11]) (by kernel_rfl) (by simp) ?_
        refine (AllReadyH.consL rfl (fun K hK => ?g4qb11x12) AllReadyH.nil)
        case' g4qb11x12 =>
          go_simp
          have HZ := hid ((HZ.out).put1 im)
          have HT := hid (HT.out.far (p := ⟨p + 2, 1, none⟩) (by show p + 2 ≠ p + 1; omega) (.int .u32 im))
          have HEW := hid (Ext.setCell (p := ⟨p + 2, 1, none⟩) HEW.out hle2 (.int .u32 im))
          have HSC := hid (far3 (q := ⟨p + 2, 1, none⟩) (by show p + 2 ≠ p; omega) (.int .u32 im) HSC.out)
          have HSC2 := hid (far3 (q := ⟨p + 2, 1, none⟩) (by show p + 2 ≠ p; omega) (.int .u32 im) HSC2.out)
          have HXg4q_3 := HEW
          have HXend := HEW
          refine hK.out _ _ HSC.out (fun hSg4q3 => ?_)
          clear hK K
          try simp only [Act.put, List.setIfInBounds_toArray, List.set_cons_zero, List.set_cons_succ]
          refine wpAnyH_done (by kernel_rfl) ?_ _
          generalize hW9 : World.drew _ = W9
          have HZ9 := hid (Box9F.move HZ.out hW9)
          have HT9 := hid (Box9F.move HT.out hW9)
          have HE9 : Hid (Ext w W9) := hid (by rw [← hW9]; exact HXend.out)
          obtain ⟨e0, e1, e2⟩ := move3 HSC2.out hW9
          clear hW9 HZ HT HXend HEW
          obtain ⟨⟨y0, y1, y2, y3, y4, y5, y6, y7, y8⟩, yf, -, -⟩ := HZ9.out
          obtain ⟨⟨t0, t1, t2, t3, t4, t5, t6, t7, t8⟩, tf, -, -⟩ := HT9.out
          go_wp2
          have hk := HK.out
          simp [keptI, keptS, hx5] at hk
          subst hk
          refine bodyPost_ret (v := inV _) (by simp [results, Tryz.results103, go_sem, World.cell?_setCell_same, World.cell?_setCell_other, inV, t0, t1, t2, t3, t4, t5, t6, t7, t8]) rfl ⟨rfl, ?_⟩
          repeat (refine Ext.setCell ?_ (by first | exact hle1 | exact hle2) _)
          exact HE9.out
  have n19 : (op == 19) = false := by simpa using z19
  by_cases h5 : 5 ≤ op ∧ op ≤ 15
  · have hx5 := h5
    obtain ⟨h5, h15⟩ := h5
    by_cases f0 : s = 3
    · subst f0
      go_wp2_with fail
      clear d0 d1 d2 d3 d4 d5 d6 d7 d8 t0 t1 t2 t3 t4 t5 t6 t7 t8 tf
      have HZ := hid HZ.out.drew
      have HT := hid HT.out.drew
      have HEW := hid HE.out.drew
      have HSC := hid (extc3 HSC.out (Ext.refl W1).drew)
      have HSC2 := hid (extc3 HSC2.out (Ext.refl W1).drew)
      have HXg5q_0 := hid ((Ext.refl W1).drew)
      refine wp_region_held_drew (S := (fun w' => w'.cell? ⟨p, 6, none⟩ = some (.int .i64 a) ∧ w'.cell? ⟨p, 7, none⟩ = some (.int .i64 b) ∧ w'.cell? ⟨p, 1, none⟩ = some (.int .u32 im))) (by kernel_rfl) HSC.out (fun hSg5q0 => ?_)
      refine wpAnyH_takeL (i := 0) (v := ?g5qv0x1) rfl (by kernel_rfl) (by kernel_rfl) (by kernel_rfl) (fun _ _ _ h => h) (Or.inl ⟨by rfl, ?g5qy0x1⟩) (by assumption) ?g5qr0x1
      case g5qy0x1 => first | (intro w hSw; (try dsimp only at hSw); go_simp; done) | (intro w hSw; (try dsimp only at hSw); go_simp; with_reducible rfl)
      case' g5qr0x1 => try simp only [Act.put, List.setIfInBounds_toArray, List.set_cons_zero, List.set_cons_succ]
      refine wpAnyH_takeL (i := 1) (v := ?g5qv1x2) rfl (by kernel_rfl) (by kernel_rfl) (by kernel_rfl) (fun _ _ _ h => h) (Or.inl ⟨by rfl, ?g5qy1x2⟩) (by assumption) ?g5qr1x2
      case g5qy1x2 => first | (intro w hSw; (try dsimp only at hSw); go_simp; done) | (intro w hSw; (try dsimp only at hSw); go_simp; with_reducible rfl)
      case' g5qr1x2 => try simp only [Act.put, List.setIfInBounds_toArray, List.set_cons_zero, List.set_cons_succ]
      refine wpAnyH_takeL (i := 2) (v := ?g5qv2x3) rfl (by kernel_rfl) (by kernel_rfl) (by kernel_rfl) (fun _ _ _ h => h) (Or.inl ⟨by rfl, ?g5qy2x3⟩) (by assumption) ?g5qr2x3
      case g5qy2x3 => first | (intro w hSw; (try dsimp only at hSw); go_simp; done) | (intro w hSw; (try dsimp only at hSw); go_simp; with_reducible rfl)
      case' g5qr2x3 => try simp only [Act.put, List.setIfInBounds_toArray, List.set_cons_zero, List.set_cons_succ]
      refine wpAnyH_takeL (i := 3) (v := ?g5qv3x4) rfl (by kernel_rfl) (by kernel_rfl) (by kernel_rfl) (fun _ _ _ h => h) (Or.inl ⟨by rfl, ?g5qy3x4⟩) (by assumption) ?g5qr3x4
      case g5qy3x4 => first | (intro w hSw; (try dsimp only at hSw); go_simp; done) | (intro w hSw; (try dsimp only at hSw); go_simp; with_reducible rfl)
      case' g5qr3x4 => try simp only [Act.put, List.setIfInBounds_toArray, List.set_cons_zero, List.set_cons_succ]
      refine wpAnyH_takeL (i := 4) (v := ?g5qv4x5) rfl (by kernel_rfl) (by kernel_rfl) (by kernel_rfl) (fun _ _ _ h => h) (Or.inl ⟨by rfl, ?g5qy4x5⟩) (by assumption) ?g5qr4x5
      case g5qy4x5 => first | (intro w hSw; (try dsimp only at hSw); go_simp; done) | (intro w hSw; (try dsimp only at hSw); go_simp; with_reducible rfl)
      case' g5qr4x5 => try simp only [Act.put, List.setIfInBounds_toArray, List.set_cons_zero, List.set_cons_succ]
      refine wpAnyH_ready (rs := [5]) (by kernel_rfl) (by simp) ?_
      refine (AllReadyH.consL rfl (fun K hK => ?g5qb5x6) AllReadyH.nil)
      case' g5qb5x6 =>
        go_simp
        have HZ := hid ((HZ.out).put6 a)
        have HT := hid (HT.out.far (p := ⟨p + 2, 6, none⟩) (by show p + 2 ≠ p + 1; omega) (.int .i64 a))
        have HEW := hid (Ext.setCell (p := ⟨p + 2, 6, none⟩) HEW.out hle2 (.int .i64 a))
        have HSC := hid (far3 (q := ⟨p + 2, 6, none⟩) (by show p + 2 ≠ p; omega) (.int .i64 a) HSC.out)
        have HSC2 := hid (far3 (q := ⟨p + 2, 6, none⟩) (by show p + 2 ≠ p; omega) (.int .i64 a) HSC2.out)
        have HXg5q_1 := HEW
        have HXend := HEW
        refine hK.out _ _ HSC.out (fun hSg5q1 => ?_)
        clear hK K
        try simp only [Act.put, List.setIfInBounds_toArray, List.set_cons_zero, List.set_cons_succ]
        refine wpAnyH_takeL (i := 6) (v := ?g5qv6x7) rfl (by kernel_rfl) (by kernel_rfl) (by kernel_rfl) (fun _ _ _ h => h) (Or.inl ⟨by rfl, ?g5qy6x7⟩) (by assumption) ?g5qr6x7
        case g5qy6x7 => first | (intro w hSw; (try dsimp only at hSw); go_simp; done) | (intro w hSw; (try dsimp only at hSw); go_simp; with_reducible rfl)
        case' g5qr6x7 => try simp only [Act.put, List.setIfInBounds_toArray, List.set_cons_zero, List.set_cons_succ]
        refine wpAnyH_ready (rs := [7]) (by kernel_rfl) (by simp) ?_
        refine (AllReadyH.consL rfl (fun K hK => ?g5qb7x8) AllReadyH.nil)
        case' g5qb7x8 =>
          go_simp
          have HZ := hid ((HZ.out).put7 b)
          have HT := hid (HT.out.far (p := ⟨p + 2, 7, none⟩) (by show p + 2 ≠ p + 1; omega) (.int .i64 b))
          have HEW := hid (Ext.setCell (p := ⟨p + 2, 7, none⟩) HEW.out hle2 (.int .i64 b))
          have HSC := hid (far3 (q := ⟨p + 2, 7, none⟩) (by show p + 2 ≠ p; omega) (.int .i64 b) HSC.out)
          have HSC2 := hid (far3 (q := ⟨p + 2, 7, none⟩) (by show p + 2 ≠ p; omega) (.int .i64 b) HSC2.out)
          have HXg5q_2 := HEW
          have HXend := HEW
          refine hK.out _ _ HSC.out (fun hSg5q2 => ?_)
          clear hK K
          try simp only [Act.put, List.setIfInBounds_toArray, List.set_cons_zero, List.set_cons_succ]
          refine wpAnyH_done (by kernel_rfl) ?_ _
          generalize hW9 : World.drew _ = W9
          have HZ9 := hid (Box9F.move HZ.out hW9)
          have HT9 := hid (Box9F.move HT.out hW9)
          have HE9 : Hid (Ext w W9) := hid (by rw [← hW9]; exact HXend.out)
          obtain ⟨e0, e1, e2⟩ := move3 HSC2.out hW9
          clear hW9 HZ HT HXend HEW
          obtain ⟨⟨y0, y1, y2, y3, y4, y5, y6, y7, y8⟩, yf, -, -⟩ := HZ9.out
          obtain ⟨⟨t0, t1, t2, t3, t4, t5, t6, t7, t8⟩, tf, -, -⟩ := HT9.out
          go_wp2
          have hk := HK.out
          simp [keptI, keptS, hx5] at hk
          subst hk
          refine bodyPost_ret (v := inV _) (by simp [results, Tryz.results103, go_sem, World.cell?_setCell_same, World.cell?_setCell_other, inV, t0, t1, t2, t3, t4, t5, t6, t7, t8]) rfl ⟨rfl, ?_⟩
          repeat (refine Ext.setCell ?_ (by first | exact hle1 | exact hle2) _)
          exact HE9.out
    · obtain rfl | rfl : s = 4 ∨ s = 6 := by
        have := HS.out
        simp [opShape, *] at this
        split at this
        · simp at this; omega
        · split at this
          · simp at this; omega
          · simp at this; omega
      ·
        go_wp2_with fail
        clear d0 d1 d2 d3 d4 d5 d6 d7 d8 t0 t1 t2 t3 t4 t5 t6 t7 t8 tf
        have HZ := hid HZ.out.drew
        have HT := hid HT.out.drew
        have HEW := hid HE.out.drew
        have HSC := hid (extc3 HSC.out (Ext.refl W1).drew)
        have HSC2 := hid (extc3 HSC2.out (Ext.refl W1).drew)
        have HXg6q_0 := hid ((Ext.refl W1).drew)
        refine wp_region_held_drew (S := (fun w' => w'.cell? ⟨p, 6, none⟩ = some (.int .i64 a) ∧ w'.cell? ⟨p, 7, none⟩ = some (.int .i64 b) ∧ w'.cell? ⟨p, 1, none⟩ = some (.int .u32 im))) (by kernel_rfl) HSC.out (fun hSg6q0 => ?_)
        refine wpAnyH_takeL (i := 0) (v := ?g6qv0x1) rfl (by kernel_rfl) (by kernel_rfl) (by kernel_rfl) (fun _ _ _ h => h) (Or.inl ⟨by rfl, ?g6qy0x1⟩) (by assumption) ?g6qr0x1
        case g6qy0x1 => first | (intro w hSw; (try dsimp only at hSw); go_simp; done) | (intro w hSw; (try dsimp only at hSw); go_simp; with_reducible rfl)
        case' g6qr0x1 => try simp only [Act.put, List.setIfInBounds_toArray, List.set_cons_zero, List.set_cons_succ]
        refine wpAnyH_takeL (i := 1) (v := ?g6qv1x2) rfl (by kernel_rfl) (by kernel_rfl) (by kernel_rfl) (fun _ _ _ h => h) (Or.inl ⟨by rfl, ?g6qy1x2⟩) (by assumption) ?g6qr1x2
        case g6qy1x2 => first | (intro w hSw; (try dsimp only at hSw); go_simp; done) | (intro w hSw; (try dsimp only at hSw); go_simp; with_reducible rfl)
        case' g6qr1x2 => try simp only [Act.put, List.setIfInBounds_toArray, List.set_cons_zero, List.set_cons_succ]
        refine wpAnyH_takeL (i := 2) (v := ?g6qv2x3) rfl (by kernel_rfl) (by kernel_rfl) (by kernel_rfl) (fun _ _ _ h => h) (Or.inl ⟨by rfl, ?g6qy2x3⟩) (by assumption) ?g6qr2x3
        case g6qy2x3 => first | (intro w hSw; (try dsimp only at hSw); go_simp; done) | (intro w hSw; (try dsimp only at hSw); go_simp; with_reducible rfl)
        case' g6qr2x3 => try simp only [Act.put, List.setIfInBounds_toArray, List.set_cons_zero, List.set_cons_succ]
        refine wpAnyH_takeL (i := 3) (v := ?g6qv3x4) rfl (by kernel_rfl) (by kernel_rfl) (by kernel_rfl) (fun _ _ _ h => h) (Or.inl ⟨by rfl, ?g6qy3x4⟩) (by assumption) ?g6qr3x4
        case g6qy3x4 => first | (intro w hSw; (try dsimp only at hSw); go_simp; done) | (intro w hSw; (try dsimp only at hSw); go_simp; with_reducible rfl)
        case' g6qr3x4 => try simp only [Act.put, List.setIfInBounds_toArray, List.set_cons_zero, List.set_cons_succ]
        refine wpAnyH_takeL (i := 4) (v := ?g6qv4x5) rfl (by kernel_rfl) (by kernel_rfl) (by kernel_rfl) (fun _ _ _ h => h) (Or.inl ⟨by rfl, ?g6qy4x5⟩) (by assumption) ?g6qr4x5
        case g6qy4x5 => first | (intro w hSw; (try dsimp only at hSw); go_simp; done) | (intro w hSw; (try dsimp only at hSw); go_simp; with_reducible rfl)
        case' g6qr4x5 => try simp only [Act.put, List.setIfInBounds_toArray, List.set_cons_zero, List.set_cons_succ]
        refine wpAnyH_ready (rs := [5]) (by kernel_rfl) (by simp) ?_
        refine (AllReadyH.consL rfl (fun K hK => ?g6qb5x6) AllReadyH.nil)
        case' g6qb5x6 =>
          go_simp
          have HZ := hid ((HZ.out).put6 a)
          have HT := hid (HT.out.far (p := ⟨p + 2, 6, none⟩) (by show p + 2 ≠ p + 1; omega) (.int .i64 a))
          have HEW := hid (Ext.setCell (p := ⟨p + 2, 6, none⟩) HEW.out hle2 (.int .i64 a))
          have HSC := hid (far3 (q := ⟨p + 2, 6, none⟩) (by show p + 2 ≠ p; omega) (.int .i64 a) HSC.out)
          have HSC2 := hid (far3 (q := ⟨p + 2, 6, none⟩) (by show p + 2 ≠ p; omega) (.int .i64 a) HSC2.out)
          have HXg6q_1 := HEW
          have HXend := HEW
          refine hK.out _ _ HSC.out (fun hSg6q1 => ?_)
          clear hK K
          try simp only [Act.put, List.setIfInBounds_toArray, List.set_cons_zero, List.set_cons_succ]
          refine wpAnyH_takeL (i := 6) (v := ?g6qv6x7) rfl (by kernel_rfl) (by kernel_rfl) (by kernel_rfl) (fun _ _ _ h => h) (Or.inl ⟨by rfl, ?g6qy6x7⟩) (by assumption) ?g6qr6x7
          case g6qy6x7 => first | (intro w hSw; (try dsimp only at hSw); go_simp; done) | (intro w hSw; (try dsimp only at hSw); go_simp; with_reducible rfl)
          case' g6qr6x7 => try simp only [Act.put, List.setIfInBounds_toArray, List.set_cons_zero, List.set_cons_succ]
          refine wpAnyH_ready (rs := [7]) (by kernel_rfl) (by simp) ?_
          refine (AllReadyH.consL rfl (fun K hK => ?g6qb7x8) AllReadyH.nil)
          case' g6qb7x8 =>
            go_simp
            have HZ := hid ((HZ.out).put1 im)
            have HT := hid (HT.out.far (p := ⟨p + 2, 1, none⟩) (by show p + 2 ≠ p + 1; omega) (.int .u32 im))
            have HEW := hid (Ext.setCell (p := ⟨p + 2, 1, none⟩) HEW.out hle2 (.int .u32 im))
            have HSC := hid (far3 (q := ⟨p + 2, 1, none⟩) (by show p + 2 ≠ p; omega) (.int .u32 im) HSC.out)
            have HSC2 := hid (far3 (q := ⟨p + 2, 1, none⟩) (by show p + 2 ≠ p; omega) (.int .u32 im) HSC2.out)
            have HXg6q_2 := HEW
            have HXend := HEW
            refine hK.out _ _ HSC.out (fun hSg6q2 => ?_)
            clear hK K
            try simp only [Act.put, List.setIfInBounds_toArray, List.set_cons_zero, List.set_cons_succ]
            refine wpAnyH_done (by kernel_rfl) ?_ _
            generalize hW9 : World.drew _ = W9
            have HZ9 := hid (Box9F.move HZ.out hW9)
            have HT9 := hid (Box9F.move HT.out hW9)
            have HE9 : Hid (Ext w W9) := hid (by rw [← hW9]; exact HXend.out)
            obtain ⟨e0, e1, e2⟩ := move3 HSC2.out hW9
            clear hW9 HZ HT HXend HEW
            obtain ⟨⟨y0, y1, y2, y3, y4, y5, y6, y7, y8⟩, yf, -, -⟩ := HZ9.out
            obtain ⟨⟨t0, t1, t2, t3, t4, t5, t6, t7, t8⟩, tf, -, -⟩ := HT9.out
            go_wp2
            have hk := HK.out
            simp [keptI, keptS, hx5] at hk
            subst hk
            refine bodyPost_ret (v := inV _) (by simp [results, Tryz.results103, go_sem, World.cell?_setCell_same, World.cell?_setCell_other, inV, t0, t1, t2, t3, t4, t5, t6, t7, t8]) rfl ⟨rfl, ?_⟩
            repeat (refine Ext.setCell ?_ (by first | exact hle1 | exact hle2) _)
            exact HE9.out
      ·
        go_wp2_with fail
        clear d0 d1 d2 d3 d4 d5 d6 d7 d8 t0 t1 t2 t3 t4 t5 t6 t7 t8 tf
        have HZ := hid HZ.out.drew
        have HT := hid HT.out.drew
        have HEW := hid HE.out.drew
        have HSC := hid (extc3 HSC.out (Ext.refl W1).drew)
        have HSC2 := hid (extc3 HSC2.out (Ext.refl W1).drew)
        have HXg7q_0 := hid ((Ext.refl W1).drew)
        refine wp_region_held_drew (S := (fun w' => w'.cell? ⟨p, 6, none⟩ = some (.int .i64 a) ∧ w'.cell? ⟨p, 7, none⟩ = some (.int .i64 b) ∧ w'.cell? ⟨p, 1, none⟩ = some (.int .u32 im))) (by kernel_rfl) HSC.out (fun hSg7q0 => ?_)
        refine wpAnyH_takeL (i := 0) (v := ?g7qv0x1) rfl (by kernel_rfl) (by kernel_rfl) (by kernel_rfl) (fun _ _ _ h => h) (Or.inl ⟨by rfl, ?g7qy0x1⟩) (by assumption) ?g7qr0x1
        case g7qy0x1 => first | (intro w hSw; (try dsimp only at hSw); go_simp; done) | (intro w hSw; (try dsimp only at hSw); go_simp; with_reducible rfl)
        case' g7qr0x1 => try simp only [Act.put, List.setIfInBounds_toArray, List.set_cons_zero, List.set_cons_succ]
        refine wpAnyH_takeL (i := 1) (v := ?g7qv1x2) rfl (by kernel_rfl) (by kernel_rfl) (by kernel_rfl) (fun _ _ _ h => h) (Or.inl ⟨by rfl, ?g7qy1x2⟩) (by assumption) ?g7qr1x2
        case g7qy1x2 => first | (intro w hSw; (try dsimp only at hSw); go_simp; done) | (intro w hSw; (try dsimp only at hSw); go_simp; with_reducible rfl)
        case' g7qr1x2 => try simp only [Act.put, List.setIfInBounds_toArray, List.set_cons_zero, List.set_cons_succ]
        refine wpAnyH_takeL (i := 2) (v := ?g7qv2x3) rfl (by kernel_rfl) (by kernel_rfl) (by kernel_rfl) (fun _ _ _ h => h) (Or.inl ⟨by rfl, ?g7qy2x3⟩) (by assumption) ?g7qr2x3
        case g7qy2x3 => first | (intro w hSw; (try dsimp only at hSw); go_simp; done) | (intro w hSw; (try dsimp only at hSw); go_simp; with_reducible rfl)
        case' g7qr2x3 => try simp only [Act.put, List.setIfInBounds_toArray, List.set_cons_zero, List.set_cons_succ]
        refine wpAnyH_takeL (i := 3) (v := ?g7qv3x4) rfl (by kernel_rfl) (by kernel_rfl) (by kernel_rfl) (fun _ _ _ h => h) (Or.inl ⟨by rfl, ?g7qy3x4⟩) (by assumption) ?g7qr3x4
        case g7qy3x4 => first | (intro w hSw; (try dsimp only at hSw); go_simp; done) | (intro w hSw; (try dsimp only at hSw); go_simp; with_reducible rfl)
        case' g7qr3x4 => try simp only [Act.put, List.setIfInBounds_toArray, List.set_cons_zero, List.set_cons_succ]
        refine wpAnyH_takeL (i := 4) (v := ?g7qv4x5) rfl (by kernel_rfl) (by kernel_rfl) (by kernel_rfl) (fun _ _ _ h => h) (Or.inl ⟨by rfl, ?g7qy4x5⟩) (by assumption) ?g7qr4x5
        case g7qy4x5 => first | (intro w hSw; (try dsimp only at hSw); go_simp; done) | (intro w hSw; (try dsimp only at hSw); go_simp; with_reducible rfl)
        case' g7qr4x5 => try simp only [Act.put, List.setIfInBounds_toArray, List.set_cons_zero, List.set_cons_succ]
        refine wpAnyH_ready (rs := [5]) (by kernel_rfl) (by simp) ?_
        refine (AllReadyH.consL rfl (fun K hK => ?g7qb5x6) AllReadyH.nil)
        case' g7qb5x6 =>
          go_simp
          have HZ := hid ((HZ.out).put6 a)
          have HT := hid (HT.out.far (p := ⟨p + 2, 6, none⟩) (by show p + 2 ≠ p + 1; omega) (.int .i64 a))
          have HEW := hid (Ext.setCell (p := ⟨p + 2, 6, none⟩) HEW.out hle2 (.int .i64 a))
          have HSC := hid (far3 (q := ⟨p + 2, 6, none⟩) (by show p + 2 ≠ p; omega) (.int .i64 a) HSC.out)
          have HSC2 := hid (far3 (q := ⟨p + 2, 6, none⟩) (by show p + 2 ≠ p; omega) (.int .i64 a) HSC2.out)
          have HXg7q_1 := HEW
          have HXend := HEW
          refine hK.out _ _ HSC.out (fun hSg7q1 => ?_)
          clear hK K
          try simp only [Act.put, List.setIfInBounds_toArray, List.set_cons_zero, List.set_cons_succ]
          refine wpAnyH_takeL (i := 6) (v := ?g7qv6x7) rfl (by kernel_rfl) (by kernel_rfl) (by kernel_rfl) (fun _ _ _ h => h) (Or.inl ⟨by rfl, ?g7qy6x7⟩) (by assumption) ?g7qr6x7
          case g7qy6x7 => first | (intro w hSw; (try dsimp only at hSw); go_simp; done) | (intro w hSw; (try dsimp only at hSw); go_simp; with_reducible rfl)
          case' g7qr6x7 => try simp only [Act.put, List.setIfInBounds_toArray, List.set_cons_zero, List.set_cons_succ]
          refine wpAnyH_ready (rs := [7]) (by kernel_rfl) (by simp) ?_
          refine (AllReadyH.consL rfl (fun K hK => ?g7qb7x8) AllReadyH.nil)
          case' g7qb7x8 =>
            go_simp
            have HZ := hid ((HZ.out).put1 im)
            have HT := hid (HT.out.far (p := ⟨p + 2, 1, none⟩) (by show p + 2 ≠ p + 1; omega) (.int .u32 im))
            have HEW := hid (Ext.setCell (p := ⟨p + 2, 1, none⟩) HEW.out hle2 (.int .u32 im))
            have HSC := hid (far3 (q := ⟨p + 2, 1, none⟩) (by show p + 2 ≠ p; omega) (.int .u32 im) HSC.out)
            have HSC2 := hid (far3 (q := ⟨p + 2, 1, none⟩) (by show p + 2 ≠ p; omega) (.int .u32 im) HSC2.out)
            have HXg7q_2 := HEW
            have HXend := HEW
            refine hK.out _ _ HSC.out (fun hSg7q2 => ?_)
            clear hK K
            try simp only [Act.put, List.setIfInBounds_toArray, List.set_cons_zero, List.set_cons_succ]
            refine wpAnyH_done (by kernel_rfl) ?_ _
            generalize hW9 : World.drew _ = W9
            have HZ9 := hid (Box9F.move HZ.out hW9)
            have HT9 := hid (Box9F.move HT.out hW9)
            have HE9 : Hid (Ext w W9) := hid (by rw [← hW9]; exact HXend.out)
            obtain ⟨e0, e1, e2⟩ := move3 HSC2.out hW9
            clear hW9 HZ HT HXend HEW
            obtain ⟨⟨y0, y1, y2, y3, y4, y5, y6, y7, y8⟩, yf, -, -⟩ := HZ9.out
            obtain ⟨⟨t0, t1, t2, t3, t4, t5, t6, t7, t8⟩, tf, -, -⟩ := HT9.out
            go_wp2
            have hk := HK.out
            simp [keptI, keptS, hx5] at hk
            subst hk
            refine bodyPost_ret (v := inV _) (by simp [results, Tryz.results103, go_sem, World.cell?_setCell_same, World.cell?_setCell_other, inV, t0, t1, t2, t3, t4, t5, t6, t7, t8]) rfl ⟨rfl, ?_⟩
            repeat (refine Ext.setCell ?_ (by first | exact hle1 | exact hle2) _)
            exact HE9.out
  by_cases z21 : op = 21
  case pos =>
    subst z21
    obtain rfl : s = 2 := by have := HS.out; simp [opShape] at this; omega
    go_wp2
    have hk := HK.out
    simp [keptI, keptS, hle1] at hk
    subst hk
    refine bodyPost_ret (v := inV _) (by simp [results, Tryz.results103, go_sem, World.cell?_setCell_same, World.cell?_setCell_other, inV, t0, t1, t2, t3, t4, t5, t6, t7, t8]) rfl ⟨rfl, ?_⟩
    repeat (refine Ext.setCell ?_ (by first | exact hle1 | exact hle2) _)
    exact HE.out
  have n21 : (op == 21) = false := by simpa using z21
  by_cases z24 : op = 24
  case pos =>
    subst z24
    obtain rfl : s = 2 := by have := HS.out; simp [opShape] at this; omega
    go_wp2
    have hk := HK.out
    simp [keptI, keptS, hle1] at hk
    subst hk
    refine bodyPost_ret (v := inV _) (by simp [results, Tryz.results103, go_sem, World.cell?_setCell_same, World.cell?_setCell_other, inV, t0, t1, t2, t3, t4, t5, t6, t7, t8]) rfl ⟨rfl, ?_⟩
    repeat (refine Ext.setCell ?_ (by first | exact hle1 | exact hle2) _)
    exact HE.out
  have n24 : (op == 24) = false := by simpa using z24
  by_cases z26 : op = 26
  case pos =>
    subst z26
    obtain rfl : s = 2 := by have := HS.out; simp [opShape] at this; omega
    go_wp2
    have hk := HK.out
    simp [keptI, keptS, hle1] at hk
    subst hk
    refine bodyPost_ret (v := inV _) (by simp [results, Tryz.results103, go_sem, World.cell?_setCell_same, World.cell?_setCell_other, inV, t0, t1, t2, t3, t4, t5, t6, t7, t8]) rfl ⟨rfl, ?_⟩
    repeat (refine Ext.setCell ?_ (by first | exact hle1 | exact hle2) _)
    exact HE.out
  have n26 : (op == 26) = false := by simpa using z26
  by_cases z27 : op = 27
  case pos =>
    subst z27
    obtain rfl : s = 2 := by have := HS.out; simp [opShape] at this; omega
    go_wp2
    have hk := HK.out
    simp [keptI, keptS, hle1] at hk
    subst hk
    refine bodyPost_ret (v := inV _) (by simp [results, Tryz.results103, go_sem, World.cell?_setCell_same, World.cell?_setCell_other, inV, t0, t1, t2, t3, t4, t5, t6, t7, t8]) rfl ⟨rfl, ?_⟩
    repeat (refine Ext.setCell ?_ (by first | exact hle1 | exact hle2) _)
    exact HE.out
  have n27 : (op == 27) = false := by simpa using z27
  by_cases z25 : op = 25
  case pos =>
    subst z25
    obtain rfl : s = 2 := by have := HS.out; simp [opShape] at this; omega
    go_wp2
    have hk := HK.out
    simp [keptI, keptS, hle1] at hk
    subst hk
    refine bodyPost_ret (v := inV _) (by simp [results, Tryz.results103, go_sem, World.cell?_setCell_same, World.cell?_setCell_other, inV, t0, t1, t2, t3, t4, t5, t6, t7, t8]) rfl ⟨rfl, ?_⟩
    repeat (refine Ext.setCell ?_ (by first | exact hle1 | exact hle2) _)
    exact HE.out
  have n25 : (op == 25) = false := by simpa using z25
  by_cases z23 : op = 23
  case pos =>
    subst z23
    obtain rfl : s = 8 := by have := HS.out; simp [opShape] at this; omega
    go_wp2
    have hk := HK.out
    simp [keptI, keptS, hle1] at hk
    subst hk
    refine bodyPost_ret (v := inV _) (by simp [results, Tryz.results103, go_sem, World.cell?_setCell_same, World.cell?_setCell_other, inV, t0, t1, t2, t3, t4, t5, t6, t7, t8]) rfl ⟨rfl, ?_⟩
    repeat (refine Ext.setCell ?_ (by first | exact hle1 | exact hle2) _)
    exact HE.out
  have n23 : (op == 23) = false := by simpa using z23
  by_cases z22 : op = 22
  case pos =>
    subst z22
    obtain rfl : s = 6 := by have := HS.out; simp [opShape] at this; omega
    go_wp2_with fail
    clear d0 d1 d2 d3 d4 d5 d6 d7 d8 t0 t1 t2 t3 t4 t5 t6 t7 t8 tf
    have HZ := hid HZ.out.drew
    have HT := hid HT.out.drew
    have HEW := hid HE.out.drew
    have HSC := hid (extc3 HSC.out (Ext.refl W1).drew)
    have HSC2 := hid (extc3 HSC2.out (Ext.refl W1).drew)
    have HXg8q_0 := hid ((Ext.refl W1).drew)
    refine wp_region_held_drew (S := (fun w' => w'.cell? ⟨p, 6, none⟩ = some (.int .i64 a) ∧ w'.cell? ⟨p, 7, none⟩ = some (.int .i64 b) ∧ w'.cell? ⟨p, 1, none⟩ = some (.int .u32 im))) (by kernel_rfl) HSC.out (fun hSg8q0 => ?_)
    refine wpAnyH_takeL (i := 0) (v := ?g8qv0x1) rfl (by kernel_rfl) (by kernel_rfl) (by kernel_rfl) (fun _ _ _ h => h) (Or.inl ⟨by rfl, ?g8qy0x1⟩) (by assumption) ?g8qr0x1
    case g8qy0x1 => first | (intro w hSw; (try dsimp only at hSw); go_simp; done) | (intro w hSw; (try dsimp only at hSw); go_simp; with_reducible rfl)
    case' g8qr0x1 => try simp only [Act.put, List.setIfInBounds_toArray, List.set_cons_zero, List.set_cons_succ]
    refine wpAnyH_takeL (i := 1) (v := ?g8qv1x2) rfl (by kernel_rfl) (by kernel_rfl) (by kernel_rfl) (fun _ _ _ h => h) (Or.inl ⟨by rfl, ?g8qy1x2⟩) (by assumption) ?g8qr1x2
    case g8qy1x2 => first | (intro w hSw; (try dsimp only at hSw); go_simp; done) | (intro w hSw; (try dsimp only at hSw); go_simp; with_reducible rfl)
    case' g8qr1x2 => try simp only [Act.put, List.setIfInBounds_toArray, List.set_cons_zero, List.set_cons_succ]
    refine wpAnyH_takeL (i := 2) (v := ?g8qv2x3) rfl (by kernel_rfl) (by kernel_rfl) (by kernel_rfl) (fun _ _ _ h => h) (Or.inl ⟨by rfl, ?g8qy2x3⟩) (by assumption) ?g8qr2x3
    case g8qy2x3 => first | (intro w hSw; (try dsimp only at hSw); go_simp; done) | (intro w hSw; (try dsimp only at hSw); go_simp; with_reducible rfl)
    case' g8qr2x3 => try simp only [Act.put, List.setIfInBounds_toArray, List.set_cons_zero, List.set_cons_succ]
    refine wpAnyH_takeL (i := 3) (v := ?g8qv3x4) rfl (by kernel_rfl) (by kernel_rfl) (by kernel_rfl) (fun _ _ _ h => h) (Or.inl ⟨by rfl, ?g8qy3x4⟩) (by assumption) ?g8qr3x4
    case g8qy3x4 => first | (intro w hSw; (try dsimp only at hSw); go_simp; done) | (intro w hSw; (try dsimp only at hSw); go_simp; with_reducible rfl)
    case' g8qr3x4 => try simp only [Act.put, List.setIfInBounds_toArray, List.set_cons_zero, List.set_cons_succ]
    refine wpAnyH_takeL (i := 4) (v := ?g8qv4x5) rfl (by kernel_rfl) (by kernel_rfl) (by kernel_rfl) (fun _ _ _ h => h) (Or.inl ⟨by rfl, ?g8qy4x5⟩) (by assumption) ?g8qr4x5
    case g8qy4x5 => first | (intro w hSw; (try dsimp only at hSw); go_simp; done) | (intro w hSw; (try dsimp only at hSw); go_simp; with_reducible rfl)
    case' g8qr4x5 => try simp only [Act.put, List.setIfInBounds_toArray, List.set_cons_zero, List.set_cons_succ]
    refine wpAnyH_ready (rs := [5]) (by kernel_rfl) (by simp) ?_
    refine (AllReadyH.consL rfl (fun K hK => ?g8qb5x6) AllReadyH.nil)
    case' g8qb5x6 =>
      go_simp
      have HZ := hid ((HZ.out).put6 a)
      have HT := hid (HT.out.far (p := ⟨p + 2, 6, none⟩) (by show p + 2 ≠ p + 1; omega) (.int .i64 a))
      have HEW := hid (Ext.setCell (p := ⟨p + 2, 6, none⟩) HEW.out hle2 (.int .i64 a))
      have HSC := hid (far3 (q := ⟨p + 2, 6, none⟩) (by show p + 2 ≠ p; omega) (.int .i64 a) HSC.out)
      have HSC2 := hid (far3 (q := ⟨p + 2, 6, none⟩) (by show p + 2 ≠ p; omega) (.int .i64 a) HSC2.out)
      have HXg8q_1 := HEW
      have HXend := HEW
      refine hK.out _ _ HSC.out (fun hSg8q1 => ?_)
      clear hK K
      try simp only [Act.put, List.setIfInBounds_toArray, List.set_cons_zero, List.set_cons_succ]
      refine wpAnyH_takeL (i := 6) (v := ?g8qv6x7) rfl (by kernel_rfl) (by kernel_rfl) (by kernel_rfl) (fun _ _ _ h => h) (Or.inl ⟨by rfl, ?g8qy6x7⟩) (by assumption) ?g8qr6x7
      case g8qy6x7 => first | (intro w hSw; (try dsimp only at hSw); go_simp; done) | (intro w hSw; (try dsimp only at hSw); go_simp; with_reducible rfl)
      case' g8qr6x7 => try simp only [Act.put, List.setIfInBounds_toArray, List.set_cons_zero, List.set_cons_succ]
      refine wpAnyH_ready (rs := [7]) (by kernel_rfl) (by simp) ?_
      refine (AllReadyH.consL rfl (fun K hK => ?g8qb7x8) AllReadyH.nil)
      case' g8qb7x8 =>
        go_simp
        have HZ := hid ((HZ.out).put1 im)
        have HT := hid (HT.out.far (p := ⟨p + 2, 1, none⟩) (by show p + 2 ≠ p + 1; omega) (.int .u32 im))
        have HEW := hid (Ext.setCell (p := ⟨p + 2, 1, none⟩) HEW.out hle2 (.int .u32 im))
        have HSC := hid (far3 (q := ⟨p + 2, 1, none⟩) (by show p + 2 ≠ p; omega) (.int .u32 im) HSC.out)
        have HSC2 := hid (far3 (q := ⟨p + 2, 1, none⟩) (by show p + 2 ≠ p; omega) (.int .u32 im) HSC2.out)
        have HXg8q_2 := HEW
        have HXend := HEW
        refine hK.out _ _ HSC.out (fun hSg8q2 => ?_)
        clear hK K
        try simp only [Act.put, List.setIfInBounds_toArray, List.set_cons_zero, List.set_cons_succ]
        refine wpAnyH_done (by kernel_rfl) ?_ _
        generalize hW9 : World.drew _ = W9
        have HZ9 := hid (Box9F.move HZ.out hW9)
        have HT9 := hid (Box9F.move HT.out hW9)
        have HE9 : Hid (Ext w W9) := hid (by rw [← hW9]; exact HXend.out)
        obtain ⟨e0, e1, e2⟩ := move3 HSC2.out hW9
        clear hW9 HZ HT HXend HEW
        obtain ⟨⟨y0, y1, y2, y3, y4, y5, y6, y7, y8⟩, yf, -, -⟩ := HZ9.out
        obtain ⟨⟨t0, t1, t2, t3, t4, t5, t6, t7, t8⟩, tf, -, -⟩ := HT9.out
        go_wp2
        have hk := HK.out
        simp [keptI, keptS, hx5] at hk
        subst hk
        refine bodyPost_ret (v := inV _) (by simp [results, Tryz.results103, go_sem, World.cell?_setCell_same, World.cell?_setCell_other, inV, t0, t1, t2, t3, t4, t5, t6, t7, t8]) rfl ⟨rfl, ?_⟩
        repeat (refine Ext.setCell ?_ (by first | exact hle1 | exact hle2) _)
        exact HE9.out
  by_cases z20 : op = 20
  case pos =>
    subst z20
    obtain ⟨W2, hW2⟩ : ∃ W2, W1.setCell ⟨p + 2, 1, none⟩ (.int .u32 im) = W2 := ⟨_, rfl⟩
    have hB2 := HB.out.far (p := ⟨p + 2, 1, none⟩) (by show p + 2 ≠ p; omega) (.int .u32 im)
    have hZ2 := HZ.out.put1 im
    have hT2 := HT.out.far (p := ⟨p + 2, 1, none⟩) (by show p + 2 ≠ p + 1; omega) (.int .u32 im)
    have hE2 := HE.out.setCell (p := ⟨p + 2, 1, none⟩) hle2 (.int .u32 im)
    rw [hW2] at hB2 hZ2 hT2 hE2
    have HZ := hid hZ2
    have HT := hid hT2
    have HE := hid hE2
    obtain ⟨g0, g1, g2, g3, g4, g5, g6, g7, g8⟩ := hB2
    have HSC := hid (And.intro g3 (And.intro g5 g1))
    have HSC2 := hid (And.intro g2 (And.intro g3 g4))
    obtain ⟨⟨x0, x1, x2, x3, x4, x5, x6, x7, x8⟩, xf, -, -⟩ := hZ2
    clear hT2 hE2
    obtain rfl | rfl : s = 7 ∨ s = 8 := by
      have := HS.out
      by_cases f1 : fo = 1
      · simp [opShape, f1] at this
        omega
      · by_cases f2 : fo = 2
        · simp [opShape, f2] at this
          omega
        · simp [opShape, f1, f2] at this
    ·
      go_wp2_with fail
      clear d0 d1 d2 d3 d4 d5 d6 d7 d8 t0 t1 t2 t3 t4 t5 t6 t7 t8 tf
      have HZ := hid HZ.out.drew
      have HT := hid HT.out.drew
      have HEW := hid HE.out.drew
      have HSC := hid (extc3 HSC.out (Ext.refl W2).drew)
      have HSC2 := hid (extc3 HSC2.out (Ext.refl W2).drew)
      have HXg9q_0 := hid ((Ext.refl W2).drew)
      refine wp_region_held_drew (S := (fun w' => w'.cell? ⟨p, 3, none⟩ = some (.int .i64 fo) ∧ w'.cell? ⟨p, 5, none⟩ = some (.int .i64 cc) ∧ w'.cell? ⟨p, 1, none⟩ = some (.int .u32 im))) (by kernel_rfl) HSC.out (fun hSg9q0 => ?_)
      refine wpAnyH_takeL (i := 0) (v := ?g9qv0x1) rfl (by kernel_rfl) (by kernel_rfl) (by kernel_rfl) (fun _ _ _ h => h) (Or.inl ⟨by rfl, ?g9qy0x1⟩) (by assumption) ?g9qr0x1
      case g9qy0x1 => first | (intro w hSw; (try dsimp only at hSw); go_simp; done) | (intro w hSw; (try dsimp only at hSw); go_simp; with_reducible rfl)
      case' g9qr0x1 => try simp only [Act.put, List.setIfInBounds_toArray, List.set_cons_zero, List.set_cons_succ]
      refine wpAnyH_takeL (i := 1) (v := ?g9qv1x2) rfl (by kernel_rfl) (by kernel_rfl) (by kernel_rfl) (fun _ _ _ h => h) (Or.inl ⟨by rfl, ?g9qy1x2⟩) (by assumption) ?g9qr1x2
      case g9qy1x2 => first | (intro w hSw; (try dsimp only at hSw); go_simp; done) | (intro w hSw; (try dsimp only at hSw); go_simp; with_reducible rfl)
      case' g9qr1x2 => try simp only [Act.put, List.setIfInBounds_toArray, List.set_cons_zero, List.set_cons_succ]
      refine wpAnyH_takeL (i := 2) (v := ?g9qv2x3) rfl (by kernel_rfl) (by kernel_rfl) (by kernel_rfl) (fun _ _ _ h => h) (Or.inl ⟨by rfl, ?g9qy2x3⟩) (by assumption) ?g9qr2x3
      case g9qy2x3 => first | (intro w hSw; (try dsimp only at hSw); go_simp; done) | (intro w hSw; (try dsimp only at hSw); go_simp; with_reducible rfl)
      case' g9qr2x3 => try simp only [Act.put, List.setIfInBounds_toArray, List.set_cons_zero, List.set_cons_succ]
      refine wpAnyH_takeL (i := 3) (v := ?g9qv3x4) rfl (by kernel_rfl) (by kernel_rfl) (by kernel_rfl) (fun _ _ _ h => h) (Or.inl ⟨by rfl, ?g9qy3x4⟩) (by assumption) ?g9qr3x4
      case g9qy3x4 => first | (intro w hSw; (try dsimp only at hSw); go_simp; done) | (intro w hSw; (try dsimp only at hSw); go_simp; with_reducible rfl)
      case' g9qr3x4 => try simp only [Act.put, List.setIfInBounds_toArray, List.set_cons_zero, List.set_cons_succ]
      refine wpAnyH_takeL (i := 4) (v := ?g9qv4x5) rfl (by kernel_rfl) (by kernel_rfl) (by kernel_rfl) (fun _ _ _ h => h) (Or.inl ⟨by rfl, ?g9qy4x5⟩) (by assumption) ?g9qr4x5
      case g9qy4x5 => first | (intro w hSw; (try dsimp only at hSw); go_simp; done) | (intro w hSw; (try dsimp only at hSw); go_simp; with_reducible rfl)
      case' g9qr4x5 => try simp only [Act.put, List.setIfInBounds_toArray, List.set_cons_zero, List.set_cons_succ]
      refine wpAnyH_ready (rs := [5]) (by kernel_rfl) (by simp) ?_
      refine (AllReadyH.consL rfl (fun K hK => ?g9qb5x6) AllReadyH.nil)
      case' g9qb5x6 =>
        go_simp
        have HZ := hid ((HZ.out).put3 fo)
        have HT := hid (HT.out.far (p := ⟨p + 2, 3, none⟩) (by show p + 2 ≠ p + 1; omega) (.int .i64 fo))
        have HEW := hid (Ext.setCell (p := ⟨p + 2, 3, none⟩) HEW.out hle2 (.int .i64 fo))
        have HSC := hid (far3 (q := ⟨p + 2, 3, none⟩) (by show p + 2 ≠ p; omega) (.int .i64 fo) HSC.out)
        have HSC2 := hid (far3 (q := ⟨p + 2, 3, none⟩) (by show p + 2 ≠ p; omega) (.int .i64 fo) HSC2.out)
        have HXg9q_1 := HEW
        have HXend := HEW
        refine hK.out _ _ HSC.out (fun hSg9q1 => ?_)
        clear hK K
        try simp only [Act.put, List.setIfInBounds_toArray, List.set_cons_zero, List.set_cons_succ]
        refine wpAnyH_takeL (i := 6) (v := ?g9qv6x7) rfl (by kernel_rfl) (by kernel_rfl) (by kernel_rfl) (fun _ _ _ h => h) (Or.inl ⟨by rfl, ?g9qy6x7⟩) (by assumption) ?g9qr6x7
        case g9qy6x7 => first | (intro w hSw; (try dsimp only at hSw); go_simp; done) | (intro w hSw; (try dsimp only at hSw); go_simp; with_reducible rfl)
        case' g9qr6x7 => try simp only [Act.put, List.setIfInBounds_toArray, List.set_cons_zero, List.set_cons_succ]
        refine wpAnyH_ready (rs := [7]) (by kernel_rfl) (by simp) ?_
        refine (AllReadyH.consL rfl (fun K hK => ?g9qb7x8) AllReadyH.nil)
        case' g9qb7x8 =>
          go_simp
          have HZ := hid ((HZ.out).put5 cc)
          have HT := hid (HT.out.far (p := ⟨p + 2, 5, none⟩) (by show p + 2 ≠ p + 1; omega) (.int .i64 cc))
          have HEW := hid (Ext.setCell (p := ⟨p + 2, 5, none⟩) HEW.out hle2 (.int .i64 cc))
          have HSC := hid (far3 (q := ⟨p + 2, 5, none⟩) (by show p + 2 ≠ p; omega) (.int .i64 cc) HSC.out)
          have HSC2 := hid (far3 (q := ⟨p + 2, 5, none⟩) (by show p + 2 ≠ p; omega) (.int .i64 cc) HSC2.out)
          have HXg9q_2 := HEW
          have HXend := HEW
          refine hK.out _ _ HSC.out (fun hSg9q2 => ?_)
          clear hK K
          try simp only [Act.put, List.setIfInBounds_toArray, List.set_cons_zero, List.set_cons_succ]
          refine wpAnyH_done (by kernel_rfl) ?_ _
          generalize hW9 : World.drew _ = W9
          have HZ9 := hid (Box9F.move HZ.out hW9)
          have HT9 := hid (Box9F.move HT.out hW9)
          have HE9 : Hid (Ext w W9) := hid (by rw [← hW9]; exact HXend.out)
          obtain ⟨e0, e1, e2⟩ := move3 HSC2.out hW9
          clear hW9 HZ HT HXend HEW
          obtain ⟨⟨y0, y1, y2, y3, y4, y5, y6, y7, y8⟩, yf, -, -⟩ := HZ9.out
          obtain ⟨⟨t0, t1, t2, t3, t4, t5, t6, t7, t8⟩, tf, -, -⟩ := HT9.out
          go_wp2
          have hk := HK.out
          simp [keptI, keptS, hx5] at hk
          subst hk
          refine bodyPost_ret (v := inV _) (by simp [results, Tryz.results103, go_sem, World.cell?_setCell_same, World.cell?_setCell_other, inV, t0, t1, t2, t3, t4, t5, t6, t7, t8]) rfl ⟨rfl, ?_⟩
          repeat (refine Ext.setCell ?_ (by first | exact hle1 | exact hle2) _)
          exact HE9.out
    ·
      go_wp2_with fail
      clear d0 d1 d2 d3 d4 d5 d6 d7 d8 t0 t1 t2 t3 t4 t5 t6 t7 t8 tf
      have HZ := hid HZ.out.drew
      have HT := hid HT.out.drew
      have HEW := hid HE.out.drew
      have HSC := hid (extc3 HSC.out (Ext.refl W2).drew)
      have HSC2 := hid (extc3 HSC2.out (Ext.refl W2).drew)
      have HXg10q_0 := hid ((Ext.refl W2).drew)
      refine wp_region_held_drew (S := (fun w' => w'.cell? ⟨p, 3, none⟩ = some (.int .i64 fo) ∧ w'.cell? ⟨p, 5, none⟩ = some (.int .i64 cc) ∧ w'.cell? ⟨p, 1, none⟩ = some (.int .u32 im))) (by kernel_rfl) HSC.out (fun hSg10q0 => ?_)
      refine wpAnyH_takeL (i := 0) (v := ?g10qv0x1) rfl (by kernel_rfl) (by kernel_rfl) (by kernel_rfl) (fun _ _ _ h => h) (Or.inl ⟨by rfl, ?g10qy0x1⟩) (by assumption) ?g10qr0x1
      case g10qy0x1 => first | (intro w hSw; (try dsimp only at hSw); go_simp; done) | (intro w hSw; (try dsimp only at hSw); go_simp; with_reducible rfl)
      case' g10qr0x1 => try simp only [Act.put, List.setIfInBounds_toArray, List.set_cons_zero, List.set_cons_succ]
      refine wpAnyH_takeL (i := 1) (v := ?g10qv1x2) rfl (by kernel_rfl) (by kernel_rfl) (by kernel_rfl) (fun _ _ _ h => h) (Or.inl ⟨by rfl, ?g10qy1x2⟩) (by assumption) ?g10qr1x2
      case g10qy1x2 => first | (intro w hSw; (try dsimp only at hSw); go_simp; done) | (intro w hSw; (try dsimp only at hSw); go_simp; with_reducible rfl)
      case' g10qr1x2 => try simp only [Act.put, List.setIfInBounds_toArray, List.set_cons_zero, List.set_cons_succ]
      refine wpAnyH_takeL (i := 2) (v := ?g10qv2x3) rfl (by kernel_rfl) (by kernel_rfl) (by kernel_rfl) (fun _ _ _ h => h) (Or.inl ⟨by rfl, ?g10qy2x3⟩) (by assumption) ?g10qr2x3
      case g10qy2x3 => first | (intro w hSw; (try dsimp only at hSw); go_simp; done) | (intro w hSw; (try dsimp only at hSw); go_simp; with_reducible rfl)
      case' g10qr2x3 => try simp only [Act.put, List.setIfInBounds_toArray, List.set_cons_zero, List.set_cons_succ]
      refine wpAnyH_takeL (i := 3) (v := ?g10qv3x4) rfl (by kernel_rfl) (by kernel_rfl) (by kernel_rfl) (fun _ _ _ h => h) (Or.inl ⟨by rfl, ?g10qy3x4⟩) (by assumption) ?g10qr3x4
      case g10qy3x4 => first | (intro w hSw; (try dsimp only at hSw); go_simp; done) | (intro w hSw; (try dsimp only at hSw); go_simp; with_reducible rfl)
      case' g10qr3x4 => try simp only [Act.put, List.setIfInBounds_toArray, List.set_cons_zero, List.set_cons_succ]
      refine wpAnyH_takeL (i := 4) (v := ?g10qv4x5) rfl (by kernel_rfl) (by kernel_rfl) (by kernel_rfl) (fun _ _ _ h => h) (Or.inl ⟨by rfl, ?g10qy4x5⟩) (by assumption) ?g10qr4x5
      case g10qy4x5 => first | (intro w hSw; (try dsimp only at hSw); go_simp; done) | (intro w hSw; (try dsimp only at hSw); go_simp; with_reducible rfl)
      case' g10qr4x5 => try simp only [Act.put, List.setIfInBounds_toArray, List.set_cons_zero, List.set_cons_succ]
      refine wpAnyH_ready (rs := [5]) (by kernel_rfl) (by simp) ?_
      refine (AllReadyH.consL rfl (fun K hK => ?g10qb5x6) AllReadyH.nil)
      case' g10qb5x6 =>
        go_simp
        have HZ := hid ((HZ.out).put3 fo)
        have HT := hid (HT.out.far (p := ⟨p + 2, 3, none⟩) (by show p + 2 ≠ p + 1; omega) (.int .i64 fo))
        have HEW := hid (Ext.setCell (p := ⟨p + 2, 3, none⟩) HEW.out hle2 (.int .i64 fo))
        have HSC := hid (far3 (q := ⟨p + 2, 3, none⟩) (by show p + 2 ≠ p; omega) (.int .i64 fo) HSC.out)
        have HSC2 := hid (far3 (q := ⟨p + 2, 3, none⟩) (by show p + 2 ≠ p; omega) (.int .i64 fo) HSC2.out)
        have HXg10q_1 := HEW
        have HXend := HEW
        refine hK.out _ _ HSC.out (fun hSg10q1 => ?_)
        clear hK K
        try simp only [Act.put, List.setIfInBounds_toArray, List.set_cons_zero, List.set_cons_succ]
        refine wpAnyH_takeL (i := 6) (v := ?g10qv6x7) rfl (by kernel_rfl) (by kernel_rfl) (by kernel_rfl) (fun _ _ _ h => h) (Or.inl ⟨by rfl, ?g10qy6x7⟩) (by assumption) ?g10qr6x7
        case g10qy6x7 => first | (intro w hSw; (try dsimp only at hSw); go_simp; done) | (intro w hSw; (try dsimp only at hSw); go_simp; with_reducible rfl)
        case' g10qr6x7 => try simp only [Act.put, List.setIfInBounds_toArray, List.set_cons_zero, List.set_cons_succ]
        refine wpAnyH_ready (rs := [7]) (by kernel_rfl) (by simp) ?_
        refine (AllReadyH.consL rfl (fun K hK => ?g10qb7x8) AllReadyH.nil)
        case' g10qb7x8 =>
          go_simp
          have HZ := hid ((HZ.out).put5 cc)
          have HT := hid (HT.out.far (p := ⟨p + 2, 5, none⟩) (by show p + 2 ≠ p + 1; omega) (.int .i64 cc))
          have HEW := hid (Ext.setCell (p := ⟨p + 2, 5, none⟩) HEW.out hle2 (.int .i64 cc))
          have HSC := hid (far3 (q := ⟨p + 2, 5, none⟩) (by show p + 2 ≠ p; omega) (.int .i64 cc) HSC.out)
          have HSC2 := hid (far3 (q := ⟨p + 2, 5, none⟩) (by show p + 2 ≠ p; omega) (.int .i64 cc) HSC2.out)
          have HXg10q_2 := HEW
          have HXend := HEW
          refine hK.out _ _ HSC.out (fun hSg10q2 => ?_)
          clear hK K
          try simp only [Act.put, List.setIfInBounds_toArray, List.set_cons_zero, List.set_cons_succ]
          refine wpAnyH_done (by kernel_rfl) ?_ _
          generalize hW9 : World.drew _ = W9
          have HZ9 := hid (Box9F.move HZ.out hW9)
          have HT9 := hid (Box9F.move HT.out hW9)
          have HE9 : Hid (Ext w W9) := hid (by rw [← hW9]; exact HXend.out)
          obtain ⟨e0, e1, e2⟩ := move3 HSC2.out hW9
          clear hW9 HZ HT HXend HEW
          obtain ⟨⟨y0, y1, y2, y3, y4, y5, y6, y7, y8⟩, yf, -, -⟩ := HZ9.out
          obtain ⟨⟨t0, t1, t2, t3, t4, t5, t6, t7, t8⟩, tf, -, -⟩ := HT9.out
          go_wp2
          have hk := HK.out
          simp [keptI, keptS, hx5] at hk
          subst hk
          refine bodyPost_ret (v := inV _) (by simp [results, Tryz.results103, go_sem, World.cell?_setCell_same, World.cell?_setCell_other, inV, t0, t1, t2, t3, t4, t5, t6, t7, t8]) rfl ⟨rfl, ?_⟩
          repeat (refine Ext.setCell ?_ (by first | exact hle1 | exact hle2) _)
          exact HE9.out
  exact absurd HS.out (by simp [opShape, *])
end Go.Proofs.YtnlmhnbogleijaaGreatDoor

namespace Go.Proofs.YtnlmhnbogleijaaGreatDoor
open Go.RowKit Go.Deco
set_option linter.unusedSimpArgs false
set_option linter.unusedVariables false

theorem shape_le {i : In} {s : Nat} (h : opShape i = some s) : s ≤ 8 := by
  unfold opShape at h
  repeat' split at h
  all_goals (first | (cases h; done) | (injection h with h; omega))
/-- Two instructions compared, field by field. -/
theorem in_eq (w : World) (i k : In) : (Op.equalIn 10000 77 (inV i) (inV k)).run Tryz.prog w = .ok (decide (i = k)) w := by
  unfold inV
  simp [go_sem]
  by_cases h : i = k
  · subst h
    simp
  · rw [decide_eq_false h]
    repeat' split
    all_goals first | rfl | (exfalso; apply h; cases i; cases k; simp_all; constructor <;> omega)
theorem Box9.conj {w' : World} {b : Nat} {i : In} (h : Box9 w' b i) : w'.cell? ⟨b, 0, none⟩ = some (.int .u32 i.addr) ∧ w'.cell? ⟨b, 1, none⟩ = some (.int .u32 i.imm) ∧ w'.cell? ⟨b, 2, none⟩ = some (.int .i64 i.op) ∧ w'.cell? ⟨b, 3, none⟩ = some (.int .i64 i.form) ∧ w'.cell? ⟨b, 4, none⟩ = some (.int .i64 i.width) ∧ w'.cell? ⟨b, 5, none⟩ = some (.int .i64 i.cc) ∧ w'.cell? ⟨b, 6, none⟩ = some (.int .i64 i.a) ∧ w'.cell? ⟨b, 7, none⟩ = some (.int .i64 i.b) ∧ w'.cell? ⟨b, 8, none⟩ = some (.int .i64 i.size) := ⟨h.c0, h.c1, h.c2, h.c3, h.c4, h.c5, h.c6, h.c7, h.c8⟩
/-- What check returns. -/
def ChkIs (w : World) (i : In) (e : Ending) (w' : World) : Prop := Ext w w' ∧ ∃ (c : Int) (s : Nat), e = .returned (.tuple #[.int .u8 c, .int .i64 s, .int .i64 (isaErr i)]) ∧ (isaErr i = 0 → opShape i = some s)
theorem chk_bad {w w' : World} {i : In} {e : Ending} (n : Nat) (h0 : n ≠ 0) (h : isaErr i = n) (he : Ext w w') (h2 : e = .returned (.tuple #[.int .u8 0, .int .i64 0, .int .i64 n])) : ChkIs w i e w' :=
  ⟨he, 0, 0, by rw [h]; exact h2, fun h' => absurd (h.symm.trans h') h0⟩
theorem chk_ok {w w' : World} {i : In} {e : Ending} {c : Int} {s : Nat} (h : isaErr i = 0) (hs : opShape i = some s) (he : Ext w w') (h2 : e = .returned (.tuple #[.int .u8 c, .int .i64 s, .int .i64 0])) : ChkIs w i e w' :=
  ⟨he, c, s, by rw [h]; exact h2, fun _ => hs⟩

set_option maxRecDepth 100000 in
set_option maxHeartbeats 8000000 in
theorem check3_any (w : World) (i : In) (hi : InOk i) : Calls Tryz.prog 91 #[inV i] w (ChkIs w i) := by
  obtain ⟨W0, hW0⟩ : ∃ W0, w.alloc (.cells #[.int .u32 i.addr, .int .u32 i.imm, .int .i64 i.op, .int .i64 i.form, .int .i64 i.width, .int .i64 i.cc, .int .i64 i.a, .int .i64 i.b, .int .i64 i.size] 77) = W0 := ⟨_, rfl⟩
  have hE : Ext w W0 := by rw [← hW0]; exact (Ext.refl w).alloc _
  have hB : Box9 W0 w.heap.size i := by rw [← hW0]; exact Box9.new w i _
  have HE := hid hE
  have HB := hid hB
  have HI := hid hi
  obtain ⟨c0, c1, c2, c3, c4, c5, c6, c7, c8⟩ := hB
  have hop := opcode_any W0 i
  obtain ⟨o, hO⟩ : ∃ o, opShape i = o := ⟨_, rfl⟩
  rw [hO] at hop
  have HO := hid hO
  have HOP := hid hop
  have e : inV i = .agg #[.int .u32 i.addr, .int .u32 i.imm, .int .i64 i.op, .int .i64 i.form, .int .i64 i.width, .int .i64 i.cc, .int .i64 i.a, .int .i64 i.b, .int .i64 i.size] := rfl
  rw [e]
  clear hE hi hop hO e
  go_enter Tryz.func91, Tryz.ntmps91
  go_wp2_with fail
  clear hW0 c0 c1 c2 c3 c4 c5 c6 c7 c8
  refine (HOP.out).mono ?_
  rintro e w1 ⟨hx1, c, s, rfl, hs⟩
  have HX1 := hid hx1
  have HSS := hid hs
  have HB := hid (HB.out.ext hx1)
  clear hx1 hs HOP
  cases o with
  | none =>
    have HER : Hid (isaErr i = 2) := hid (by unfold isaErr; rw [HO.out])
    have n0 : (none : Option Nat).isSome = false := rfl
    go_wp2_with fail
    refine wp_region_held_drew (S := (fun w' => w'.cell? ⟨w.heap.size, 0, none⟩ = some (.int .u32 i.addr) ∧ w'.cell? ⟨w.heap.size, 1, none⟩ = some (.int .u32 i.imm) ∧ w'.cell? ⟨w.heap.size, 2, none⟩ = some (.int .i64 i.op) ∧ w'.cell? ⟨w.heap.size, 3, none⟩ = some (.int .i64 i.form) ∧ w'.cell? ⟨w.heap.size, 4, none⟩ = some (.int .i64 i.width) ∧ w'.cell? ⟨w.heap.size, 5, none⟩ = some (.int .i64 i.cc) ∧ w'.cell? ⟨w.heap.size, 6, none⟩ = some (.int .i64 i.a) ∧ w'.cell? ⟨w.heap.size, 7, none⟩ = some (.int .i64 i.b) ∧ w'.cell? ⟨w.heap.size, 8, none⟩ = some (.int .i64 i.size))) (by kernel_rfl) (HB.out.ext (Ext.refl w1).drew).conj (fun hSg1q0 => ?_)
    refine wpAnyH_takeL (i := 0) (v := ?g1qv0) rfl (by kernel_rfl) (by kernel_rfl) (by kernel_rfl) (fun _ _ _ h => h) (Or.inl ⟨by rfl, ?g1qy0⟩) (by assumption) ?g1qr0
    case g1qy0 => first | (intro w hSw; (try dsimp only at hSw); go_simp; done) | (intro w hSw; (try dsimp only at hSw); go_simp; with_reducible rfl)
    case' g1qr0 => try simp only [Act.put, List.setIfInBounds_toArray, List.set_cons_zero, List.set_cons_succ]
    refine wpAnyH_takeL (i := 1) (v := ?g1qv1) rfl (by kernel_rfl) (by kernel_rfl) (by kernel_rfl) (fun _ _ _ h => h) (Or.inl ⟨by rfl, ?g1qy1⟩) (by assumption) ?g1qr1
    case g1qy1 => first | (intro w hSw; (try dsimp only at hSw); go_simp; done) | (intro w hSw; (try dsimp only at hSw); go_simp; with_reducible rfl)
    case' g1qr1 => try simp only [Act.put, List.setIfInBounds_toArray, List.set_cons_zero, List.set_cons_succ]
    refine wpAnyH_takeL (i := 2) (v := ?g1qv2) rfl (by kernel_rfl) (by kernel_rfl) (by kernel_rfl) (fun _ _ _ h => h) (Or.inl ⟨by rfl, ?g1qy2⟩) (by assumption) ?g1qr2
    case g1qy2 => first | (intro w hSw; (try dsimp only at hSw); go_simp; done) | (intro w hSw; (try dsimp only at hSw); go_simp; with_reducible rfl)
    case' g1qr2 => try simp only [Act.put, List.setIfInBounds_toArray, List.set_cons_zero, List.set_cons_succ]
    refine wpAnyH_takeL (i := 3) (v := undef) rfl (by kernel_rfl) (by kernel_rfl) (by kernel_rfl) (fun _ _ _ h => h) (Or.inr ⟨by rfl, rfl⟩) (by assumption) ?g1qr3
    case' g1qr3 => try simp only [Act.put, List.setIfInBounds_toArray, List.set_cons_zero, List.set_cons_succ]
    refine wpAnyH_takeL (i := 4) (v := undef) rfl (by kernel_rfl) (by kernel_rfl) (by kernel_rfl) (fun _ _ _ h => h) (Or.inr ⟨by rfl, rfl⟩) (by assumption) ?g1qr4
    case' g1qr4 => try simp only [Act.put, List.setIfInBounds_toArray, List.set_cons_zero, List.set_cons_succ]
    refine wpAnyH_ready (rs := [5]) (by kernel_rfl) (by simp) ?_
    refine AllReadyH.consL rfl (fun K hK => ?_) AllReadyH.nil
    refine cast (if_neg (fun h => Bool.noConfusion (show false = true from h))).symm ?_
    refine hK.out _ _ (by assumption) (fun hSg1q1 => ?_)
    clear hK K
    try simp only [Act.put, List.setIfInBounds_toArray, List.set_cons_zero, List.set_cons_succ]
    refine wpAnyH_takeL (i := 6) (v := undef) rfl (by kernel_rfl) (by kernel_rfl) (by kernel_rfl) (fun _ _ _ h => h) (Or.inr ⟨by rfl, rfl⟩) (by assumption) ?g1qr6
    case' g1qr6 => try simp only [Act.put, List.setIfInBounds_toArray, List.set_cons_zero, List.set_cons_succ]
    refine wpAnyH_takeL (i := 7) (v := ?g1qv7) rfl (by kernel_rfl) (by kernel_rfl) (by kernel_rfl) (fun _ _ _ h => h) (Or.inl ⟨by rfl, ?g1qy7⟩) (by assumption) ?g1qr7
    case g1qy7 => first | (intro w hSw; (try dsimp only at hSw); go_simp; done) | (intro w hSw; (try dsimp only at hSw); go_simp; with_reducible rfl)
    case' g1qr7 => try simp only [Act.put, List.setIfInBounds_toArray, List.set_cons_zero, List.set_cons_succ]
    refine wpAnyH_takeL (i := 8) (v := ?g1qv8) rfl (by kernel_rfl) (by kernel_rfl) (by kernel_rfl) (fun _ _ _ h => h) (Or.inl ⟨by rfl, ?g1qy8⟩) (by assumption) ?g1qr8
    case g1qy8 => first | (intro w hSw; (try dsimp only at hSw); go_simp; done) | (intro w hSw; (try dsimp only at hSw); go_simp; with_reducible rfl)
    case' g1qr8 => try simp only [Act.put, List.setIfInBounds_toArray, List.set_cons_zero, List.set_cons_succ]
    refine wpAnyH_takeL (i := 9) (v := undef) rfl (by kernel_rfl) (by kernel_rfl) (by kernel_rfl) (fun _ _ _ h => h) (Or.inr ⟨by rfl, rfl⟩) (by assumption) ?g1qr9
    case' g1qr9 => try simp only [Act.put, List.setIfInBounds_toArray, List.set_cons_zero, List.set_cons_succ]
    refine wpAnyH_takeL (i := 10) (v := undef) rfl (by kernel_rfl) (by kernel_rfl) (by kernel_rfl) (fun _ _ _ h => h) (Or.inr ⟨by rfl, rfl⟩) (by assumption) ?g1qr10
    case' g1qr10 => try simp only [Act.put, List.setIfInBounds_toArray, List.set_cons_zero, List.set_cons_succ]
    refine wpAnyH_ready (rs := [11]) (by kernel_rfl) (by simp) ?_
    refine AllReadyH.consL rfl (fun K hK => ?_) AllReadyH.nil
    refine cast (if_neg (fun h => Bool.noConfusion (show false = true from h))).symm ?_
    refine hK.out _ _ (by assumption) (fun hSg1q2 => ?_)
    clear hK K
    try simp only [Act.put, List.setIfInBounds_toArray, List.set_cons_zero, List.set_cons_succ]
    refine wpAnyH_takeL (i := 12) (v := undef) rfl (by kernel_rfl) (by kernel_rfl) (by kernel_rfl) (fun _ _ _ h => h) (Or.inr ⟨by rfl, rfl⟩) (by assumption) ?g1qr12
    case' g1qr12 => try simp only [Act.put, List.setIfInBounds_toArray, List.set_cons_zero, List.set_cons_succ]
    refine wpAnyH_takeL (i := 13) (v := ?g1qv13) rfl (by kernel_rfl) (by kernel_rfl) (by kernel_rfl) (fun _ _ _ h => h) (Or.inl ⟨by rfl, ?g1qy13⟩) (by assumption) ?g1qr13
    case g1qy13 => first | (intro w hSw; (try dsimp only at hSw); go_simp; done) | (intro w hSw; (try dsimp only at hSw); go_simp; with_reducible rfl)
    case' g1qr13 => try simp only [Act.put, List.setIfInBounds_toArray, List.set_cons_zero, List.set_cons_succ]
    refine wpAnyH_takeL (i := 14) (v := ?g1qv14) rfl (by kernel_rfl) (by kernel_rfl) (by kernel_rfl) (fun _ _ _ h => h) (Or.inl ⟨by rfl, ?g1qy14⟩) (by assumption) ?g1qr14
    case g1qy14 => first | (intro w hSw; (try dsimp only at hSw); go_simp; done) | (intro w hSw; (try dsimp only at hSw); go_simp; with_reducible rfl)
    case' g1qr14 => try simp only [Act.put, List.setIfInBounds_toArray, List.set_cons_zero, List.set_cons_succ]
    refine wpAnyH_takeL (i := 15) (v := undef) rfl (by kernel_rfl) (by kernel_rfl) (by kernel_rfl) (fun _ _ _ h => h) (Or.inr ⟨by rfl, rfl⟩) (by assumption) ?g1qr15
    case' g1qr15 => try simp only [Act.put, List.setIfInBounds_toArray, List.set_cons_zero, List.set_cons_succ]
    refine wpAnyH_takeL (i := 16) (v := undef) rfl (by kernel_rfl) (by kernel_rfl) (by kernel_rfl) (fun _ _ _ h => h) (Or.inr ⟨by rfl, rfl⟩) (by assumption) ?g1qr16
    case' g1qr16 => try simp only [Act.put, List.setIfInBounds_toArray, List.set_cons_zero, List.set_cons_succ]
    refine wpAnyH_takeL (i := 18) (v := undef) rfl (by kernel_rfl) (by kernel_rfl) (by kernel_rfl) (fun _ _ _ h => h) (Or.inr ⟨by rfl, rfl⟩) (by assumption) ?g1qr18
    case' g1qr18 => try simp only [Act.put, List.setIfInBounds_toArray, List.set_cons_zero, List.set_cons_succ]
    refine wpAnyH_ready (rs := [17]) (by kernel_rfl) (by simp) ?_
    refine AllReadyH.consL rfl (fun K hK => ?_) AllReadyH.nil
    refine cast (if_neg (fun h => Bool.noConfusion (show false = true from h))).symm ?_
    refine hK.out _ _ (by assumption) (fun hSg1q3 => ?_)
    clear hK K
    try simp only [Act.put, List.setIfInBounds_toArray, List.set_cons_zero, List.set_cons_succ]
    refine wpAnyH_takeL (i := 19) (v := undef) rfl (by kernel_rfl) (by kernel_rfl) (by kernel_rfl) (fun _ _ _ h => h) (Or.inr ⟨by rfl, rfl⟩) (by assumption) ?g1qr19
    case' g1qr19 => try simp only [Act.put, List.setIfInBounds_toArray, List.set_cons_zero, List.set_cons_succ]
    refine wpAnyH_takeL (i := 20) (v := ?g1qv20) rfl (by kernel_rfl) (by kernel_rfl) (by kernel_rfl) (fun _ _ _ h => h) (Or.inl ⟨by rfl, ?g1qy20⟩) (by assumption) ?g1qr20
    case g1qy20 => first | (intro w hSw; (try dsimp only at hSw); go_simp; done) | (intro w hSw; (try dsimp only at hSw); go_simp; with_reducible rfl)
    case' g1qr20 => try simp only [Act.put, List.setIfInBounds_toArray, List.set_cons_zero, List.set_cons_succ]
    refine wpAnyH_done (by kernel_rfl) ?_ _
    go_wp2
    go_ret3
    exact chk_bad 2 (by omega) HER.out (HE.out.trans (HX1.out.drew)) (by simp)
  | some s' =>
    obtain rfl := HSS.out s' rfl
    have n0 : (some s : Option Nat).isSome = true := rfl
    have hle := shape_le HO.out
    have HLE := hid hle
    clear hle HSS
    by_cases ha : regB i.a = true
    case neg =>
      have ha : regB i.a = false := by simpa using ha
      have HA := hid ha
      have HER : Hid (isaErr i = 2) := hid (by unfold isaErr; rw [HO.out]; simp [ha])
      clear ha
      go_wp2_with fail
      refine wp_region_held_drew (S := (fun w' => w'.cell? ⟨w.heap.size, 0, none⟩ = some (.int .u32 i.addr) ∧ w'.cell? ⟨w.heap.size, 1, none⟩ = some (.int .u32 i.imm) ∧ w'.cell? ⟨w.heap.size, 2, none⟩ = some (.int .i64 i.op) ∧ w'.cell? ⟨w.heap.size, 3, none⟩ = some (.int .i64 i.form) ∧ w'.cell? ⟨w.heap.size, 4, none⟩ = some (.int .i64 i.width) ∧ w'.cell? ⟨w.heap.size, 5, none⟩ = some (.int .i64 i.cc) ∧ w'.cell? ⟨w.heap.size, 6, none⟩ = some (.int .i64 i.a) ∧ w'.cell? ⟨w.heap.size, 7, none⟩ = some (.int .i64 i.b) ∧ w'.cell? ⟨w.heap.size, 8, none⟩ = some (.int .i64 i.size))) (by kernel_rfl) (HB.out.ext (Ext.refl w1).drew).conj (fun hSg2q0 => ?_)
      refine wpAnyH_takeL (i := 0) (v := ?g2qv0) rfl (by kernel_rfl) (by kernel_rfl) (by kernel_rfl) (fun _ _ _ h => h) (Or.inl ⟨by rfl, ?g2qy0⟩) (by assumption) ?g2qr0
      case g2qy0 => first | (intro w hSw; (try dsimp only at hSw); go_simp; done) | (intro w hSw; (try dsimp only at hSw); go_simp; with_reducible rfl)
      case' g2qr0 => try simp only [Act.put, List.setIfInBounds_toArray, List.set_cons_zero, List.set_cons_succ]
      refine wpAnyH_takeL (i := 1) (v := ?g2qv1) rfl (by kernel_rfl) (by kernel_rfl) (by kernel_rfl) (fun _ _ _ h => h) (Or.inl ⟨by rfl, ?g2qy1⟩) (by assumption) ?g2qr1
      case g2qy1 => first | (intro w hSw; (try dsimp only at hSw); go_simp; done) | (intro w hSw; (try dsimp only at hSw); go_simp; with_reducible rfl)
      case' g2qr1 => try simp only [Act.put, List.setIfInBounds_toArray, List.set_cons_zero, List.set_cons_succ]
      refine wpAnyH_takeL (i := 2) (v := ?g2qv2) rfl (by kernel_rfl) (by kernel_rfl) (by kernel_rfl) (fun _ _ _ h => h) (Or.inl ⟨by rfl, ?g2qy2⟩) (by assumption) ?g2qr2
      case g2qy2 => first | (intro w hSw; (try dsimp only at hSw); go_simp; done) | (intro w hSw; (try dsimp only at hSw); go_simp; with_reducible rfl)
      case' g2qr2 => try simp only [Act.put, List.setIfInBounds_toArray, List.set_cons_zero, List.set_cons_succ]
      refine wpAnyH_takeL (i := 3) (v := ?g2qv3) rfl (by kernel_rfl) (by kernel_rfl) (by kernel_rfl) (fun _ _ _ h => h) (Or.inl ⟨by rfl, ?g2qy3⟩) (by assumption) ?g2qr3
      case g2qy3 => first | (intro w hSw; (try dsimp only at hSw); go_simp; done) | (intro w hSw; (try dsimp only at hSw); go_simp; with_reducible rfl)
      case' g2qr3 => try simp only [Act.put, List.setIfInBounds_toArray, List.set_cons_zero, List.set_cons_succ]
      refine wpAnyH_takeL (i := 4) (v := ?g2qv4) rfl (by kernel_rfl) (by kernel_rfl) (by kernel_rfl) (fun _ _ _ h => h) (Or.inl ⟨by rfl, ?g2qy4⟩) (by assumption) ?g2qr4
      case g2qy4 => first | (intro w hSw; (try dsimp only at hSw); go_simp; done) | (intro w hSw; (try dsimp only at hSw); go_simp; with_reducible rfl)
      case' g2qr4 => try simp only [Act.put, List.setIfInBounds_toArray, List.set_cons_zero, List.set_cons_succ]
      refine wpAnyH_ready (rs := [5]) (by kernel_rfl) (by simp) ?_
      refine AllReadyH.consL rfl (fun K hK => ?_) AllReadyH.nil
      go_simp
      go_at_call 102
      refine (reg_any _ _).mono ?_
      rintro e w5 ⟨rfl, hw5⟩
      subst hw5
      rw [HA.out]
      refine hK.out _ _ (HB.out.ext (Ext.refl w1).drew).conj (fun hSg2q1 => ?_)
      clear hK K
      try simp only [Act.put, List.setIfInBounds_toArray, List.set_cons_zero, List.set_cons_succ]
      refine wpAnyH_takeL (i := 6) (v := ?g2qv6) rfl (by kernel_rfl) (by kernel_rfl) (by kernel_rfl) (fun _ _ _ h => h) (Or.inl ⟨by rfl, ?g2qy6⟩) (by assumption) ?g2qr6
      case g2qy6 => first | (intro w hSw; (try dsimp only at hSw); go_simp; done) | (intro w hSw; (try dsimp only at hSw); go_simp; with_reducible rfl)
      case' g2qr6 => try simp only [Act.put, List.setIfInBounds_toArray, List.set_cons_zero, List.set_cons_succ]
      refine wpAnyH_takeL (i := 7) (v := ?g2qv7) rfl (by kernel_rfl) (by kernel_rfl) (by kernel_rfl) (fun _ _ _ h => h) (Or.inl ⟨by rfl, ?g2qy7⟩) (by assumption) ?g2qr7
      case g2qy7 => first | (intro w hSw; (try dsimp only at hSw); go_simp; done) | (intro w hSw; (try dsimp only at hSw); go_simp; with_reducible rfl)
      case' g2qr7 => try simp only [Act.put, List.setIfInBounds_toArray, List.set_cons_zero, List.set_cons_succ]
      refine wpAnyH_takeL (i := 8) (v := ?g2qv8) rfl (by kernel_rfl) (by kernel_rfl) (by kernel_rfl) (fun _ _ _ h => h) (Or.inl ⟨by rfl, ?g2qy8⟩) (by assumption) ?g2qr8
      case g2qy8 => first | (intro w hSw; (try dsimp only at hSw); go_simp; done) | (intro w hSw; (try dsimp only at hSw); go_simp; with_reducible rfl)
      case' g2qr8 => try simp only [Act.put, List.setIfInBounds_toArray, List.set_cons_zero, List.set_cons_succ]
      refine wpAnyH_takeL (i := 9) (v := undef) rfl (by kernel_rfl) (by kernel_rfl) (by kernel_rfl) (fun _ _ _ h => h) (Or.inr ⟨by rfl, rfl⟩) (by assumption) ?g2qr9
      case' g2qr9 => try simp only [Act.put, List.setIfInBounds_toArray, List.set_cons_zero, List.set_cons_succ]
      refine wpAnyH_takeL (i := 10) (v := undef) rfl (by kernel_rfl) (by kernel_rfl) (by kernel_rfl) (fun _ _ _ h => h) (Or.inr ⟨by rfl, rfl⟩) (by assumption) ?g2qr10
      case' g2qr10 => try simp only [Act.put, List.setIfInBounds_toArray, List.set_cons_zero, List.set_cons_succ]
      refine wpAnyH_ready (rs := [11]) (by kernel_rfl) (by simp) ?_
      refine AllReadyH.consL rfl (fun K hK => ?_) AllReadyH.nil
      refine cast (if_neg (fun h => Bool.noConfusion (show false = true from h))).symm ?_
      refine hK.out _ _ (by assumption) (fun hSg2q2 => ?_)
      clear hK K
      try simp only [Act.put, List.setIfInBounds_toArray, List.set_cons_zero, List.set_cons_succ]
      refine wpAnyH_takeL (i := 12) (v := undef) rfl (by kernel_rfl) (by kernel_rfl) (by kernel_rfl) (fun _ _ _ h => h) (Or.inr ⟨by rfl, rfl⟩) (by assumption) ?g2qr12
      case' g2qr12 => try simp only [Act.put, List.setIfInBounds_toArray, List.set_cons_zero, List.set_cons_succ]
      refine wpAnyH_takeL (i := 13) (v := ?g2qv13) rfl (by kernel_rfl) (by kernel_rfl) (by kernel_rfl) (fun _ _ _ h => h) (Or.inl ⟨by rfl, ?g2qy13⟩) (by assumption) ?g2qr13
      case g2qy13 => first | (intro w hSw; (try dsimp only at hSw); go_simp; done) | (intro w hSw; (try dsimp only at hSw); go_simp; with_reducible rfl)
      case' g2qr13 => try simp only [Act.put, List.setIfInBounds_toArray, List.set_cons_zero, List.set_cons_succ]
      refine wpAnyH_takeL (i := 14) (v := ?g2qv14) rfl (by kernel_rfl) (by kernel_rfl) (by kernel_rfl) (fun _ _ _ h => h) (Or.inl ⟨by rfl, ?g2qy14⟩) (by assumption) ?g2qr14
      case g2qy14 => first | (intro w hSw; (try dsimp only at hSw); go_simp; done) | (intro w hSw; (try dsimp only at hSw); go_simp; with_reducible rfl)
      case' g2qr14 => try simp only [Act.put, List.setIfInBounds_toArray, List.set_cons_zero, List.set_cons_succ]
      refine wpAnyH_takeL (i := 15) (v := undef) rfl (by kernel_rfl) (by kernel_rfl) (by kernel_rfl) (fun _ _ _ h => h) (Or.inr ⟨by rfl, rfl⟩) (by assumption) ?g2qr15
      case' g2qr15 => try simp only [Act.put, List.setIfInBounds_toArray, List.set_cons_zero, List.set_cons_succ]
      refine wpAnyH_takeL (i := 16) (v := undef) rfl (by kernel_rfl) (by kernel_rfl) (by kernel_rfl) (fun _ _ _ h => h) (Or.inr ⟨by rfl, rfl⟩) (by assumption) ?g2qr16
      case' g2qr16 => try simp only [Act.put, List.setIfInBounds_toArray, List.set_cons_zero, List.set_cons_succ]
      refine wpAnyH_takeL (i := 18) (v := undef) rfl (by kernel_rfl) (by kernel_rfl) (by kernel_rfl) (fun _ _ _ h => h) (Or.inr ⟨by rfl, rfl⟩) (by assumption) ?g2qr18
      case' g2qr18 => try simp only [Act.put, List.setIfInBounds_toArray, List.set_cons_zero, List.set_cons_succ]
      refine wpAnyH_ready (rs := [17]) (by kernel_rfl) (by simp) ?_
      refine AllReadyH.consL rfl (fun K hK => ?_) AllReadyH.nil
      refine cast (if_neg (fun h => Bool.noConfusion (show false = true from h))).symm ?_
      refine hK.out _ _ (by assumption) (fun hSg2q3 => ?_)
      clear hK K
      try simp only [Act.put, List.setIfInBounds_toArray, List.set_cons_zero, List.set_cons_succ]
      refine wpAnyH_takeL (i := 19) (v := undef) rfl (by kernel_rfl) (by kernel_rfl) (by kernel_rfl) (fun _ _ _ h => h) (Or.inr ⟨by rfl, rfl⟩) (by assumption) ?g2qr19
      case' g2qr19 => try simp only [Act.put, List.setIfInBounds_toArray, List.set_cons_zero, List.set_cons_succ]
      refine wpAnyH_takeL (i := 20) (v := ?g2qv20) rfl (by kernel_rfl) (by kernel_rfl) (by kernel_rfl) (fun _ _ _ h => h) (Or.inl ⟨by rfl, ?g2qy20⟩) (by assumption) ?g2qr20
      case g2qy20 => first | (intro w hSw; (try dsimp only at hSw); go_simp; done) | (intro w hSw; (try dsimp only at hSw); go_simp; with_reducible rfl)
      case' g2qr20 => try simp only [Act.put, List.setIfInBounds_toArray, List.set_cons_zero, List.set_cons_succ]
      refine wpAnyH_done (by kernel_rfl) ?_ _
      go_wp2
      go_ret3
      exact chk_bad 2 (by omega) HER.out (HE.out.trans (HX1.out.drew)) (by simp)
    have HA := hid ha
    by_cases hb : regB i.b = true
    case neg =>
      have hb : regB i.b = false := by simpa using hb
      have HBB := hid hb
      have HER : Hid (isaErr i = 2) := hid (by unfold isaErr; rw [HO.out]; simp [hb])
      clear ha hb
      go_wp2_with fail
      refine wp_region_held_drew (S := (fun w' => w'.cell? ⟨w.heap.size, 0, none⟩ = some (.int .u32 i.addr) ∧ w'.cell? ⟨w.heap.size, 1, none⟩ = some (.int .u32 i.imm) ∧ w'.cell? ⟨w.heap.size, 2, none⟩ = some (.int .i64 i.op) ∧ w'.cell? ⟨w.heap.size, 3, none⟩ = some (.int .i64 i.form) ∧ w'.cell? ⟨w.heap.size, 4, none⟩ = some (.int .i64 i.width) ∧ w'.cell? ⟨w.heap.size, 5, none⟩ = some (.int .i64 i.cc) ∧ w'.cell? ⟨w.heap.size, 6, none⟩ = some (.int .i64 i.a) ∧ w'.cell? ⟨w.heap.size, 7, none⟩ = some (.int .i64 i.b) ∧ w'.cell? ⟨w.heap.size, 8, none⟩ = some (.int .i64 i.size))) (by kernel_rfl) (HB.out.ext (Ext.refl w1).drew).conj (fun hSg3q0 => ?_)
      refine wpAnyH_takeL (i := 0) (v := ?g3qv0) rfl (by kernel_rfl) (by kernel_rfl) (by kernel_rfl) (fun _ _ _ h => h) (Or.inl ⟨by rfl, ?g3qy0⟩) (by assumption) ?g3qr0
      case g3qy0 => first | (intro w hSw; (try dsimp only at hSw); go_simp; done) | (intro w hSw; (try dsimp only at hSw); go_simp; with_reducible rfl)
      case' g3qr0 => try simp only [Act.put, List.setIfInBounds_toArray, List.set_cons_zero, List.set_cons_succ]
      refine wpAnyH_takeL (i := 1) (v := ?g3qv1) rfl (by kernel_rfl) (by kernel_rfl) (by kernel_rfl) (fun _ _ _ h => h) (Or.inl ⟨by rfl, ?g3qy1⟩) (by assumption) ?g3qr1
      case g3qy1 => first | (intro w hSw; (try dsimp only at hSw); go_simp; done) | (intro w hSw; (try dsimp only at hSw); go_simp; with_reducible rfl)
      case' g3qr1 => try simp only [Act.put, List.setIfInBounds_toArray, List.set_cons_zero, List.set_cons_succ]
      refine wpAnyH_takeL (i := 2) (v := ?g3qv2) rfl (by kernel_rfl) (by kernel_rfl) (by kernel_rfl) (fun _ _ _ h => h) (Or.inl ⟨by rfl, ?g3qy2⟩) (by assumption) ?g3qr2
      case g3qy2 => first | (intro w hSw; (try dsimp only at hSw); go_simp; done) | (intro w hSw; (try dsimp only at hSw); go_simp; with_reducible rfl)
      case' g3qr2 => try simp only [Act.put, List.setIfInBounds_toArray, List.set_cons_zero, List.set_cons_succ]
      refine wpAnyH_takeL (i := 3) (v := ?g3qv3) rfl (by kernel_rfl) (by kernel_rfl) (by kernel_rfl) (fun _ _ _ h => h) (Or.inl ⟨by rfl, ?g3qy3⟩) (by assumption) ?g3qr3
      case g3qy3 => first | (intro w hSw; (try dsimp only at hSw); go_simp; done) | (intro w hSw; (try dsimp only at hSw); go_simp; with_reducible rfl)
      case' g3qr3 => try simp only [Act.put, List.setIfInBounds_toArray, List.set_cons_zero, List.set_cons_succ]
      refine wpAnyH_takeL (i := 4) (v := ?g3qv4) rfl (by kernel_rfl) (by kernel_rfl) (by kernel_rfl) (fun _ _ _ h => h) (Or.inl ⟨by rfl, ?g3qy4⟩) (by assumption) ?g3qr4
      case g3qy4 => first | (intro w hSw; (try dsimp only at hSw); go_simp; done) | (intro w hSw; (try dsimp only at hSw); go_simp; with_reducible rfl)
      case' g3qr4 => try simp only [Act.put, List.setIfInBounds_toArray, List.set_cons_zero, List.set_cons_succ]
      refine wpAnyH_ready (rs := [5]) (by kernel_rfl) (by simp) ?_
      refine AllReadyH.consL rfl (fun K hK => ?_) AllReadyH.nil
      go_simp
      go_at_call 102
      refine (reg_any _ _).mono ?_
      rintro e w5 ⟨rfl, hw5⟩
      subst hw5
      rw [HA.out]
      refine hK.out _ _ (HB.out.ext (Ext.refl w1).drew).conj (fun hSg3q1 => ?_)
      clear hK K
      try simp only [Act.put, List.setIfInBounds_toArray, List.set_cons_zero, List.set_cons_succ]
      refine wpAnyH_takeL (i := 6) (v := ?g3qv6) rfl (by kernel_rfl) (by kernel_rfl) (by kernel_rfl) (fun _ _ _ h => h) (Or.inl ⟨by rfl, ?g3qy6⟩) (by assumption) ?g3qr6
      case g3qy6 => first | (intro w hSw; (try dsimp only at hSw); go_simp; done) | (intro w hSw; (try dsimp only at hSw); go_simp; with_reducible rfl)
      case' g3qr6 => try simp only [Act.put, List.setIfInBounds_toArray, List.set_cons_zero, List.set_cons_succ]
      refine wpAnyH_takeL (i := 7) (v := ?g3qv7) rfl (by kernel_rfl) (by kernel_rfl) (by kernel_rfl) (fun _ _ _ h => h) (Or.inl ⟨by rfl, ?g3qy7⟩) (by assumption) ?g3qr7
      case g3qy7 => first | (intro w hSw; (try dsimp only at hSw); go_simp; done) | (intro w hSw; (try dsimp only at hSw); go_simp; with_reducible rfl)
      case' g3qr7 => try simp only [Act.put, List.setIfInBounds_toArray, List.set_cons_zero, List.set_cons_succ]
      refine wpAnyH_takeL (i := 8) (v := ?g3qv8) rfl (by kernel_rfl) (by kernel_rfl) (by kernel_rfl) (fun _ _ _ h => h) (Or.inl ⟨by rfl, ?g3qy8⟩) (by assumption) ?g3qr8
      case g3qy8 => first | (intro w hSw; (try dsimp only at hSw); go_simp; done) | (intro w hSw; (try dsimp only at hSw); go_simp; with_reducible rfl)
      case' g3qr8 => try simp only [Act.put, List.setIfInBounds_toArray, List.set_cons_zero, List.set_cons_succ]
      refine wpAnyH_takeL (i := 9) (v := ?g3qv9) rfl (by kernel_rfl) (by kernel_rfl) (by kernel_rfl) (fun _ _ _ h => h) (Or.inl ⟨by rfl, ?g3qy9⟩) (by assumption) ?g3qr9
      case g3qy9 => first | (intro w hSw; (try dsimp only at hSw); go_simp; done) | (intro w hSw; (try dsimp only at hSw); go_simp; with_reducible rfl)
      case' g3qr9 => try simp only [Act.put, List.setIfInBounds_toArray, List.set_cons_zero, List.set_cons_succ]
      refine wpAnyH_takeL (i := 10) (v := ?g3qv10) rfl (by kernel_rfl) (by kernel_rfl) (by kernel_rfl) (fun _ _ _ h => h) (Or.inl ⟨by rfl, ?g3qy10⟩) (by assumption) ?g3qr10
      case g3qy10 => first | (intro w hSw; (try dsimp only at hSw); go_simp; done) | (intro w hSw; (try dsimp only at hSw); go_simp; with_reducible rfl)
      case' g3qr10 => try simp only [Act.put, List.setIfInBounds_toArray, List.set_cons_zero, List.set_cons_succ]
      refine wpAnyH_ready (rs := [11]) (by kernel_rfl) (by simp) ?_
      refine AllReadyH.consL rfl (fun K hK => ?_) AllReadyH.nil
      go_simp
      go_at_call 102
      refine (reg_any _ _).mono ?_
      rintro e w5 ⟨rfl, hw5⟩
      subst hw5
      rw [HBB.out]
      refine hK.out _ _ (HB.out.ext (Ext.refl w1).drew).conj (fun hSg3q2 => ?_)
      clear hK K
      try simp only [Act.put, List.setIfInBounds_toArray, List.set_cons_zero, List.set_cons_succ]
      refine wpAnyH_takeL (i := 12) (v := ?g3qv12) rfl (by kernel_rfl) (by kernel_rfl) (by kernel_rfl) (fun _ _ _ h => h) (Or.inl ⟨by rfl, ?g3qy12⟩) (by assumption) ?g3qr12
      case g3qy12 => first | (intro w hSw; (try dsimp only at hSw); go_simp; done) | (intro w hSw; (try dsimp only at hSw); go_simp; with_reducible rfl)
      case' g3qr12 => try simp only [Act.put, List.setIfInBounds_toArray, List.set_cons_zero, List.set_cons_succ]
      refine wpAnyH_takeL (i := 13) (v := ?g3qv13) rfl (by kernel_rfl) (by kernel_rfl) (by kernel_rfl) (fun _ _ _ h => h) (Or.inl ⟨by rfl, ?g3qy13⟩) (by assumption) ?g3qr13
      case g3qy13 => first | (intro w hSw; (try dsimp only at hSw); go_simp; done) | (intro w hSw; (try dsimp only at hSw); go_simp; with_reducible rfl)
      case' g3qr13 => try simp only [Act.put, List.setIfInBounds_toArray, List.set_cons_zero, List.set_cons_succ]
      refine wpAnyH_takeL (i := 14) (v := ?g3qv14) rfl (by kernel_rfl) (by kernel_rfl) (by kernel_rfl) (fun _ _ _ h => h) (Or.inl ⟨by rfl, ?g3qy14⟩) (by assumption) ?g3qr14
      case g3qy14 => first | (intro w hSw; (try dsimp only at hSw); go_simp; done) | (intro w hSw; (try dsimp only at hSw); go_simp; with_reducible rfl)
      case' g3qr14 => try simp only [Act.put, List.setIfInBounds_toArray, List.set_cons_zero, List.set_cons_succ]
      refine wpAnyH_takeL (i := 15) (v := undef) rfl (by kernel_rfl) (by kernel_rfl) (by kernel_rfl) (fun _ _ _ h => h) (Or.inr ⟨by rfl, rfl⟩) (by assumption) ?g3qr15
      case' g3qr15 => try simp only [Act.put, List.setIfInBounds_toArray, List.set_cons_zero, List.set_cons_succ]
      refine wpAnyH_takeL (i := 16) (v := undef) rfl (by kernel_rfl) (by kernel_rfl) (by kernel_rfl) (fun _ _ _ h => h) (Or.inr ⟨by rfl, rfl⟩) (by assumption) ?g3qr16
      case' g3qr16 => try simp only [Act.put, List.setIfInBounds_toArray, List.set_cons_zero, List.set_cons_succ]
      refine wpAnyH_takeL (i := 18) (v := undef) rfl (by kernel_rfl) (by kernel_rfl) (by kernel_rfl) (fun _ _ _ h => h) (Or.inr ⟨by rfl, rfl⟩) (by assumption) ?g3qr18
      case' g3qr18 => try simp only [Act.put, List.setIfInBounds_toArray, List.set_cons_zero, List.set_cons_succ]
      refine wpAnyH_ready (rs := [17]) (by kernel_rfl) (by simp) ?_
      refine AllReadyH.consL rfl (fun K hK => ?_) AllReadyH.nil
      refine cast (if_neg (fun h => Bool.noConfusion (show false = true from h))).symm ?_
      refine hK.out _ _ (by assumption) (fun hSg3q3 => ?_)
      clear hK K
      try simp only [Act.put, List.setIfInBounds_toArray, List.set_cons_zero, List.set_cons_succ]
      refine wpAnyH_takeL (i := 19) (v := undef) rfl (by kernel_rfl) (by kernel_rfl) (by kernel_rfl) (fun _ _ _ h => h) (Or.inr ⟨by rfl, rfl⟩) (by assumption) ?g3qr19
      case' g3qr19 => try simp only [Act.put, List.setIfInBounds_toArray, List.set_cons_zero, List.set_cons_succ]
      refine wpAnyH_takeL (i := 20) (v := ?g3qv20) rfl (by kernel_rfl) (by kernel_rfl) (by kernel_rfl) (fun _ _ _ h => h) (Or.inl ⟨by rfl, ?g3qy20⟩) (by assumption) ?g3qr20
      case g3qy20 => first | (intro w hSw; (try dsimp only at hSw); go_simp; done) | (intro w hSw; (try dsimp only at hSw); go_simp; with_reducible rfl)
      case' g3qr20 => try simp only [Act.put, List.setIfInBounds_toArray, List.set_cons_zero, List.set_cons_succ]
      refine wpAnyH_done (by kernel_rfl) ?_ _
      go_wp2
      go_ret3
      exact chk_bad 2 (by omega) HER.out (HE.out.trans (HX1.out.drew)) (by simp)
    have HBB := hid hb
    obtain ⟨k, hk⟩ : ∃ k, keptI i s = k := ⟨_, rfl⟩
    have HK := hid hk
    have heq : ∀ w, (Op.equalIn 10000 77 (.agg #[.int .u32 k.addr, .int .u32 k.imm, .int .i64 k.op, .int .i64 k.form, .int .i64 k.width, .int .i64 k.cc, .int .i64 k.a, .int .i64 k.b, .int .i64 k.size]) (.agg #[.int .u32 i.addr, .int .u32 i.imm, .int .i64 i.op, .int .i64 i.form, .int .i64 i.width, .int .i64 i.cc, .int .i64 i.a, .int .i64 i.b, .int .i64 i.size])).run Tryz.prog w = .ok (decide (k = i)) w := fun w => in_eq w k i
    obtain ⟨d, hd⟩ : ∃ d, decide (k = i) = d := ⟨_, rfl⟩
    rw [hd] at heq
    have HD := hid hd
    clear ha hb hk hd
    cases d with
    | false =>
      have HER : Hid (isaErr i = 2) := hid (by
        have h := of_decide_eq_false HD.out
        rw [← HK.out] at h
        unfold isaErr
        rw [HO.out]
        simp [h])
      go_wp2_with fail
      refine wp_region_held_drew (S := (fun w' => w'.cell? ⟨w.heap.size, 0, none⟩ = some (.int .u32 i.addr) ∧ w'.cell? ⟨w.heap.size, 1, none⟩ = some (.int .u32 i.imm) ∧ w'.cell? ⟨w.heap.size, 2, none⟩ = some (.int .i64 i.op) ∧ w'.cell? ⟨w.heap.size, 3, none⟩ = some (.int .i64 i.form) ∧ w'.cell? ⟨w.heap.size, 4, none⟩ = some (.int .i64 i.width) ∧ w'.cell? ⟨w.heap.size, 5, none⟩ = some (.int .i64 i.cc) ∧ w'.cell? ⟨w.heap.size, 6, none⟩ = some (.int .i64 i.a) ∧ w'.cell? ⟨w.heap.size, 7, none⟩ = some (.int .i64 i.b) ∧ w'.cell? ⟨w.heap.size, 8, none⟩ = some (.int .i64 i.size))) (by kernel_rfl) (HB.out.ext (Ext.refl w1).drew).conj (fun hSg4q0 => ?_)
      refine wpAnyH_takeL (i := 0) (v := ?g4qv0) rfl (by kernel_rfl) (by kernel_rfl) (by kernel_rfl) (fun _ _ _ h => h) (Or.inl ⟨by rfl, ?g4qy0⟩) (by assumption) ?g4qr0
      case g4qy0 => first | (intro w hSw; (try dsimp only at hSw); go_simp; done) | (intro w hSw; (try dsimp only at hSw); go_simp; with_reducible rfl)
      case' g4qr0 => try simp only [Act.put, List.setIfInBounds_toArray, List.set_cons_zero, List.set_cons_succ]
      refine wpAnyH_takeL (i := 1) (v := ?g4qv1) rfl (by kernel_rfl) (by kernel_rfl) (by kernel_rfl) (fun _ _ _ h => h) (Or.inl ⟨by rfl, ?g4qy1⟩) (by assumption) ?g4qr1
      case g4qy1 => first | (intro w hSw; (try dsimp only at hSw); go_simp; done) | (intro w hSw; (try dsimp only at hSw); go_simp; with_reducible rfl)
      case' g4qr1 => try simp only [Act.put, List.setIfInBounds_toArray, List.set_cons_zero, List.set_cons_succ]
      refine wpAnyH_takeL (i := 2) (v := ?g4qv2) rfl (by kernel_rfl) (by kernel_rfl) (by kernel_rfl) (fun _ _ _ h => h) (Or.inl ⟨by rfl, ?g4qy2⟩) (by assumption) ?g4qr2
      case g4qy2 => first | (intro w hSw; (try dsimp only at hSw); go_simp; done) | (intro w hSw; (try dsimp only at hSw); go_simp; with_reducible rfl)
      case' g4qr2 => try simp only [Act.put, List.setIfInBounds_toArray, List.set_cons_zero, List.set_cons_succ]
      refine wpAnyH_takeL (i := 3) (v := ?g4qv3) rfl (by kernel_rfl) (by kernel_rfl) (by kernel_rfl) (fun _ _ _ h => h) (Or.inl ⟨by rfl, ?g4qy3⟩) (by assumption) ?g4qr3
      case g4qy3 => first | (intro w hSw; (try dsimp only at hSw); go_simp; done) | (intro w hSw; (try dsimp only at hSw); go_simp; with_reducible rfl)
      case' g4qr3 => try simp only [Act.put, List.setIfInBounds_toArray, List.set_cons_zero, List.set_cons_succ]
      refine wpAnyH_takeL (i := 4) (v := ?g4qv4) rfl (by kernel_rfl) (by kernel_rfl) (by kernel_rfl) (fun _ _ _ h => h) (Or.inl ⟨by rfl, ?g4qy4⟩) (by assumption) ?g4qr4
      case g4qy4 => first | (intro w hSw; (try dsimp only at hSw); go_simp; done) | (intro w hSw; (try dsimp only at hSw); go_simp; with_reducible rfl)
      case' g4qr4 => try simp only [Act.put, List.setIfInBounds_toArray, List.set_cons_zero, List.set_cons_succ]
      refine wpAnyH_ready (rs := [5]) (by kernel_rfl) (by simp) ?_
      refine AllReadyH.consL rfl (fun K hK => ?_) AllReadyH.nil
      go_simp
      go_at_call 102
      refine (reg_any _ _).mono ?_
      rintro e w5 ⟨rfl, hw5⟩
      subst hw5
      rw [HA.out]
      refine hK.out _ _ (HB.out.ext (Ext.refl w1).drew).conj (fun hSg4q1 => ?_)
      clear hK K
      try simp only [Act.put, List.setIfInBounds_toArray, List.set_cons_zero, List.set_cons_succ]
      refine wpAnyH_takeL (i := 6) (v := ?g4qv6) rfl (by kernel_rfl) (by kernel_rfl) (by kernel_rfl) (fun _ _ _ h => h) (Or.inl ⟨by rfl, ?g4qy6⟩) (by assumption) ?g4qr6
      case g4qy6 => first | (intro w hSw; (try dsimp only at hSw); go_simp; done) | (intro w hSw; (try dsimp only at hSw); go_simp; with_reducible rfl)
      case' g4qr6 => try simp only [Act.put, List.setIfInBounds_toArray, List.set_cons_zero, List.set_cons_succ]
      refine wpAnyH_takeL (i := 7) (v := ?g4qv7) rfl (by kernel_rfl) (by kernel_rfl) (by kernel_rfl) (fun _ _ _ h => h) (Or.inl ⟨by rfl, ?g4qy7⟩) (by assumption) ?g4qr7
      case g4qy7 => first | (intro w hSw; (try dsimp only at hSw); go_simp; done) | (intro w hSw; (try dsimp only at hSw); go_simp; with_reducible rfl)
      case' g4qr7 => try simp only [Act.put, List.setIfInBounds_toArray, List.set_cons_zero, List.set_cons_succ]
      refine wpAnyH_takeL (i := 8) (v := ?g4qv8) rfl (by kernel_rfl) (by kernel_rfl) (by kernel_rfl) (fun _ _ _ h => h) (Or.inl ⟨by rfl, ?g4qy8⟩) (by assumption) ?g4qr8
      case g4qy8 => first | (intro w hSw; (try dsimp only at hSw); go_simp; done) | (intro w hSw; (try dsimp only at hSw); go_simp; with_reducible rfl)
      case' g4qr8 => try simp only [Act.put, List.setIfInBounds_toArray, List.set_cons_zero, List.set_cons_succ]
      refine wpAnyH_takeL (i := 9) (v := ?g4qv9) rfl (by kernel_rfl) (by kernel_rfl) (by kernel_rfl) (fun _ _ _ h => h) (Or.inl ⟨by rfl, ?g4qy9⟩) (by assumption) ?g4qr9
      case g4qy9 => first | (intro w hSw; (try dsimp only at hSw); go_simp; done) | (intro w hSw; (try dsimp only at hSw); go_simp; with_reducible rfl)
      case' g4qr9 => try simp only [Act.put, List.setIfInBounds_toArray, List.set_cons_zero, List.set_cons_succ]
      refine wpAnyH_takeL (i := 10) (v := ?g4qv10) rfl (by kernel_rfl) (by kernel_rfl) (by kernel_rfl) (fun _ _ _ h => h) (Or.inl ⟨by rfl, ?g4qy10⟩) (by assumption) ?g4qr10
      case g4qy10 => first | (intro w hSw; (try dsimp only at hSw); go_simp; done) | (intro w hSw; (try dsimp only at hSw); go_simp; with_reducible rfl)
      case' g4qr10 => try simp only [Act.put, List.setIfInBounds_toArray, List.set_cons_zero, List.set_cons_succ]
      refine wpAnyH_ready (rs := [11]) (by kernel_rfl) (by simp) ?_
      refine AllReadyH.consL rfl (fun K hK => ?_) AllReadyH.nil
      go_simp
      go_at_call 102
      refine (reg_any _ _).mono ?_
      rintro e w5 ⟨rfl, hw5⟩
      subst hw5
      rw [HBB.out]
      refine hK.out _ _ (HB.out.ext (Ext.refl w1).drew).conj (fun hSg4q2 => ?_)
      clear hK K
      try simp only [Act.put, List.setIfInBounds_toArray, List.set_cons_zero, List.set_cons_succ]
      refine wpAnyH_takeL (i := 12) (v := ?g4qv12) rfl (by kernel_rfl) (by kernel_rfl) (by kernel_rfl) (fun _ _ _ h => h) (Or.inl ⟨by rfl, ?g4qy12⟩) (by assumption) ?g4qr12
      case g4qy12 => first | (intro w hSw; (try dsimp only at hSw); go_simp; done) | (intro w hSw; (try dsimp only at hSw); go_simp; with_reducible rfl)
      case' g4qr12 => try simp only [Act.put, List.setIfInBounds_toArray, List.set_cons_zero, List.set_cons_succ]
      refine wpAnyH_takeL (i := 13) (v := ?g4qv13) rfl (by kernel_rfl) (by kernel_rfl) (by kernel_rfl) (fun _ _ _ h => h) (Or.inl ⟨by rfl, ?g4qy13⟩) (by assumption) ?g4qr13
      case g4qy13 => first | (intro w hSw; (try dsimp only at hSw); go_simp; done) | (intro w hSw; (try dsimp only at hSw); go_simp; with_reducible rfl)
      case' g4qr13 => try simp only [Act.put, List.setIfInBounds_toArray, List.set_cons_zero, List.set_cons_succ]
      refine wpAnyH_takeL (i := 14) (v := ?g4qv14) rfl (by kernel_rfl) (by kernel_rfl) (by kernel_rfl) (fun _ _ _ h => h) (Or.inl ⟨by rfl, ?g4qy14⟩) (by assumption) ?g4qr14
      case g4qy14 => first | (intro w hSw; (try dsimp only at hSw); go_simp; done) | (intro w hSw; (try dsimp only at hSw); go_simp; with_reducible rfl)
      case' g4qr14 => try simp only [Act.put, List.setIfInBounds_toArray, List.set_cons_zero, List.set_cons_succ]
      refine wpAnyH_takeL (i := 15) (v := ?g4qv15) rfl (by kernel_rfl) (by kernel_rfl) (by kernel_rfl) (fun _ _ _ h => h) (Or.inl ⟨by rfl, ?g4qy15⟩) (by assumption) ?g4qr15
      case g4qy15 => first | (intro w hSw; (try dsimp only at hSw); go_simp; done) | (intro w hSw; (try dsimp only at hSw); go_simp; with_reducible rfl)
      case' g4qr15 => try simp only [Act.put, List.setIfInBounds_toArray, List.set_cons_zero, List.set_cons_succ]
      refine wpAnyH_takeL (i := 16) (v := ?g4qv16) rfl (by kernel_rfl) (by kernel_rfl) (by kernel_rfl) (fun _ _ _ h => h) (Or.inl ⟨by rfl, ?g4qy16⟩) (by assumption) ?g4qr16
      case g4qy16 => first | (intro w hSw; (try dsimp only at hSw); go_simp; done) | (intro w hSw; (try dsimp only at hSw); go_simp; with_reducible rfl)
      case' g4qr16 => try simp only [Act.put, List.setIfInBounds_toArray, List.set_cons_zero, List.set_cons_succ]
      refine wpAnyH_takeL (i := 18) (v := ?g4qv18) rfl (by kernel_rfl) (by kernel_rfl) (by kernel_rfl) (fun _ _ _ h => h) (Or.inl ⟨by rfl, ?g4qy18⟩) (by assumption) ?g4qr18
      case g4qy18 => first | (intro w hSw; (try dsimp only at hSw); go_simp; done) | (intro w hSw; (try dsimp only at hSw); go_simp; with_reducible rfl)
      case' g4qr18 => try simp only [Act.put, List.setIfInBounds_toArray, List.set_cons_zero, List.set_cons_succ]
      refine wpAnyH_ready (rs := [17]) (by kernel_rfl) (by simp) ?_
      refine AllReadyH.consL rfl (fun K hK => ?_) AllReadyH.nil
      go_simp
      go_at_call 103
      refine (kept_any _ i s HO.out).mono ?_
      rintro e w7 ⟨rfl, hx7⟩
      rw [HK.out]
      have HX7 := hid ((Ext.refl w1).drew.trans hx7)
      clear hx7
      simp only [inV]
      refine hK.out _ _ (HB.out.ext HX7.out).conj (fun hSg4q3 => ?_)
      clear hK K
      try simp only [Act.put, List.setIfInBounds_toArray, List.set_cons_zero, List.set_cons_succ]
      refine wpAnyH_takeL (i := 19) (v := ?g4qv19) rfl (by kernel_rfl) (by kernel_rfl) (by kernel_rfl) (fun _ _ _ h => h) (Or.inl ⟨by rfl, ?g4qy19⟩) (by assumption) ?g4qr19
      case g4qy19 => first | (intro w hSw; (try dsimp only at hSw); go_simp; done) | (intro w hSw; (try dsimp only at hSw); go_simp; with_reducible rfl)
      case' g4qr19 => try simp only [Act.put, List.setIfInBounds_toArray, List.set_cons_zero, List.set_cons_succ]
      refine wpAnyH_takeL (i := 20) (v := ?g4qv20) rfl (by kernel_rfl) (by kernel_rfl) (by kernel_rfl) (fun _ _ _ h => h) (Or.inl ⟨by rfl, ?g4qy20⟩) (by assumption) ?g4qr20
      case g4qy20 => first | (intro w hSw; (try dsimp only at hSw); go_simp; done) | (intro w hSw; (try dsimp only at hSw); go_simp; with_reducible rfl)
      case' g4qr20 => try simp only [Act.put, List.setIfInBounds_toArray, List.set_cons_zero, List.set_cons_succ]
      refine wpAnyH_done (by kernel_rfl) ?_ _
      clear heq
      go_wp2
      go_ret3
      exact chk_bad 2 (by omega) HER.out (HE.out.trans (HX1.out.trans HX7.out)) (by simp)
    | true =>
      go_wp2_with fail
      refine wp_region_held_drew (S := (fun w' => w'.cell? ⟨w.heap.size, 0, none⟩ = some (.int .u32 i.addr) ∧ w'.cell? ⟨w.heap.size, 1, none⟩ = some (.int .u32 i.imm) ∧ w'.cell? ⟨w.heap.size, 2, none⟩ = some (.int .i64 i.op) ∧ w'.cell? ⟨w.heap.size, 3, none⟩ = some (.int .i64 i.form) ∧ w'.cell? ⟨w.heap.size, 4, none⟩ = some (.int .i64 i.width) ∧ w'.cell? ⟨w.heap.size, 5, none⟩ = some (.int .i64 i.cc) ∧ w'.cell? ⟨w.heap.size, 6, none⟩ = some (.int .i64 i.a) ∧ w'.cell? ⟨w.heap.size, 7, none⟩ = some (.int .i64 i.b) ∧ w'.cell? ⟨w.heap.size, 8, none⟩ = some (.int .i64 i.size))) (by kernel_rfl) (HB.out.ext (Ext.refl w1).drew).conj (fun hSg5q0 => ?_)
      refine wpAnyH_takeL (i := 0) (v := ?g5qv0) rfl (by kernel_rfl) (by kernel_rfl) (by kernel_rfl) (fun _ _ _ h => h) (Or.inl ⟨by rfl, ?g5qy0⟩) (by assumption) ?g5qr0
      case g5qy0 => first | (intro w hSw; (try dsimp only at hSw); go_simp; done) | (intro w hSw; (try dsimp only at hSw); go_simp; with_reducible rfl)
      case' g5qr0 => try simp only [Act.put, List.setIfInBounds_toArray, List.set_cons_zero, List.set_cons_succ]
      refine wpAnyH_takeL (i := 1) (v := ?g5qv1) rfl (by kernel_rfl) (by kernel_rfl) (by kernel_rfl) (fun _ _ _ h => h) (Or.inl ⟨by rfl, ?g5qy1⟩) (by assumption) ?g5qr1
      case g5qy1 => first | (intro w hSw; (try dsimp only at hSw); go_simp; done) | (intro w hSw; (try dsimp only at hSw); go_simp; with_reducible rfl)
      case' g5qr1 => try simp only [Act.put, List.setIfInBounds_toArray, List.set_cons_zero, List.set_cons_succ]
      refine wpAnyH_takeL (i := 2) (v := ?g5qv2) rfl (by kernel_rfl) (by kernel_rfl) (by kernel_rfl) (fun _ _ _ h => h) (Or.inl ⟨by rfl, ?g5qy2⟩) (by assumption) ?g5qr2
      case g5qy2 => first | (intro w hSw; (try dsimp only at hSw); go_simp; done) | (intro w hSw; (try dsimp only at hSw); go_simp; with_reducible rfl)
      case' g5qr2 => try simp only [Act.put, List.setIfInBounds_toArray, List.set_cons_zero, List.set_cons_succ]
      refine wpAnyH_takeL (i := 3) (v := ?g5qv3) rfl (by kernel_rfl) (by kernel_rfl) (by kernel_rfl) (fun _ _ _ h => h) (Or.inl ⟨by rfl, ?g5qy3⟩) (by assumption) ?g5qr3
      case g5qy3 => first | (intro w hSw; (try dsimp only at hSw); go_simp; done) | (intro w hSw; (try dsimp only at hSw); go_simp; with_reducible rfl)
      case' g5qr3 => try simp only [Act.put, List.setIfInBounds_toArray, List.set_cons_zero, List.set_cons_succ]
      refine wpAnyH_takeL (i := 4) (v := ?g5qv4) rfl (by kernel_rfl) (by kernel_rfl) (by kernel_rfl) (fun _ _ _ h => h) (Or.inl ⟨by rfl, ?g5qy4⟩) (by assumption) ?g5qr4
      case g5qy4 => first | (intro w hSw; (try dsimp only at hSw); go_simp; done) | (intro w hSw; (try dsimp only at hSw); go_simp; with_reducible rfl)
      case' g5qr4 => try simp only [Act.put, List.setIfInBounds_toArray, List.set_cons_zero, List.set_cons_succ]
      refine wpAnyH_ready (rs := [5]) (by kernel_rfl) (by simp) ?_
      refine AllReadyH.consL rfl (fun K hK => ?_) AllReadyH.nil
      go_simp
      go_at_call 102
      refine (reg_any _ _).mono ?_
      rintro e w5 ⟨rfl, hw5⟩
      subst hw5
      rw [HA.out]
      refine hK.out _ _ (HB.out.ext (Ext.refl w1).drew).conj (fun hSg5q1 => ?_)
      clear hK K
      try simp only [Act.put, List.setIfInBounds_toArray, List.set_cons_zero, List.set_cons_succ]
      refine wpAnyH_takeL (i := 6) (v := ?g5qv6) rfl (by kernel_rfl) (by kernel_rfl) (by kernel_rfl) (fun _ _ _ h => h) (Or.inl ⟨by rfl, ?g5qy6⟩) (by assumption) ?g5qr6
      case g5qy6 => first | (intro w hSw; (try dsimp only at hSw); go_simp; done) | (intro w hSw; (try dsimp only at hSw); go_simp; with_reducible rfl)
      case' g5qr6 => try simp only [Act.put, List.setIfInBounds_toArray, List.set_cons_zero, List.set_cons_succ]
      refine wpAnyH_takeL (i := 7) (v := ?g5qv7) rfl (by kernel_rfl) (by kernel_rfl) (by kernel_rfl) (fun _ _ _ h => h) (Or.inl ⟨by rfl, ?g5qy7⟩) (by assumption) ?g5qr7
      case g5qy7 => first | (intro w hSw; (try dsimp only at hSw); go_simp; done) | (intro w hSw; (try dsimp only at hSw); go_simp; with_reducible rfl)
      case' g5qr7 => try simp only [Act.put, List.setIfInBounds_toArray, List.set_cons_zero, List.set_cons_succ]
      refine wpAnyH_takeL (i := 8) (v := ?g5qv8) rfl (by kernel_rfl) (by kernel_rfl) (by kernel_rfl) (fun _ _ _ h => h) (Or.inl ⟨by rfl, ?g5qy8⟩) (by assumption) ?g5qr8
      case g5qy8 => first | (intro w hSw; (try dsimp only at hSw); go_simp; done) | (intro w hSw; (try dsimp only at hSw); go_simp; with_reducible rfl)
      case' g5qr8 => try simp only [Act.put, List.setIfInBounds_toArray, List.set_cons_zero, List.set_cons_succ]
      refine wpAnyH_takeL (i := 9) (v := ?g5qv9) rfl (by kernel_rfl) (by kernel_rfl) (by kernel_rfl) (fun _ _ _ h => h) (Or.inl ⟨by rfl, ?g5qy9⟩) (by assumption) ?g5qr9
      case g5qy9 => first | (intro w hSw; (try dsimp only at hSw); go_simp; done) | (intro w hSw; (try dsimp only at hSw); go_simp; with_reducible rfl)
      case' g5qr9 => try simp only [Act.put, List.setIfInBounds_toArray, List.set_cons_zero, List.set_cons_succ]
      refine wpAnyH_takeL (i := 10) (v := ?g5qv10) rfl (by kernel_rfl) (by kernel_rfl) (by kernel_rfl) (fun _ _ _ h => h) (Or.inl ⟨by rfl, ?g5qy10⟩) (by assumption) ?g5qr10
      case g5qy10 => first | (intro w hSw; (try dsimp only at hSw); go_simp; done) | (intro w hSw; (try dsimp only at hSw); go_simp; with_reducible rfl)
      case' g5qr10 => try simp only [Act.put, List.setIfInBounds_toArray, List.set_cons_zero, List.set_cons_succ]
      refine wpAnyH_ready (rs := [11]) (by kernel_rfl) (by simp) ?_
      refine AllReadyH.consL rfl (fun K hK => ?_) AllReadyH.nil
      go_simp
      go_at_call 102
      refine (reg_any _ _).mono ?_
      rintro e w5 ⟨rfl, hw5⟩
      subst hw5
      rw [HBB.out]
      refine hK.out _ _ (HB.out.ext (Ext.refl w1).drew).conj (fun hSg5q2 => ?_)
      clear hK K
      try simp only [Act.put, List.setIfInBounds_toArray, List.set_cons_zero, List.set_cons_succ]
      refine wpAnyH_takeL (i := 12) (v := ?g5qv12) rfl (by kernel_rfl) (by kernel_rfl) (by kernel_rfl) (fun _ _ _ h => h) (Or.inl ⟨by rfl, ?g5qy12⟩) (by assumption) ?g5qr12
      case g5qy12 => first | (intro w hSw; (try dsimp only at hSw); go_simp; done) | (intro w hSw; (try dsimp only at hSw); go_simp; with_reducible rfl)
      case' g5qr12 => try simp only [Act.put, List.setIfInBounds_toArray, List.set_cons_zero, List.set_cons_succ]
      refine wpAnyH_takeL (i := 13) (v := ?g5qv13) rfl (by kernel_rfl) (by kernel_rfl) (by kernel_rfl) (fun _ _ _ h => h) (Or.inl ⟨by rfl, ?g5qy13⟩) (by assumption) ?g5qr13
      case g5qy13 => first | (intro w hSw; (try dsimp only at hSw); go_simp; done) | (intro w hSw; (try dsimp only at hSw); go_simp; with_reducible rfl)
      case' g5qr13 => try simp only [Act.put, List.setIfInBounds_toArray, List.set_cons_zero, List.set_cons_succ]
      refine wpAnyH_takeL (i := 14) (v := ?g5qv14) rfl (by kernel_rfl) (by kernel_rfl) (by kernel_rfl) (fun _ _ _ h => h) (Or.inl ⟨by rfl, ?g5qy14⟩) (by assumption) ?g5qr14
      case g5qy14 => first | (intro w hSw; (try dsimp only at hSw); go_simp; done) | (intro w hSw; (try dsimp only at hSw); go_simp; with_reducible rfl)
      case' g5qr14 => try simp only [Act.put, List.setIfInBounds_toArray, List.set_cons_zero, List.set_cons_succ]
      refine wpAnyH_takeL (i := 15) (v := ?g5qv15) rfl (by kernel_rfl) (by kernel_rfl) (by kernel_rfl) (fun _ _ _ h => h) (Or.inl ⟨by rfl, ?g5qy15⟩) (by assumption) ?g5qr15
      case g5qy15 => first | (intro w hSw; (try dsimp only at hSw); go_simp; done) | (intro w hSw; (try dsimp only at hSw); go_simp; with_reducible rfl)
      case' g5qr15 => try simp only [Act.put, List.setIfInBounds_toArray, List.set_cons_zero, List.set_cons_succ]
      refine wpAnyH_takeL (i := 16) (v := ?g5qv16) rfl (by kernel_rfl) (by kernel_rfl) (by kernel_rfl) (fun _ _ _ h => h) (Or.inl ⟨by rfl, ?g5qy16⟩) (by assumption) ?g5qr16
      case g5qy16 => first | (intro w hSw; (try dsimp only at hSw); go_simp; done) | (intro w hSw; (try dsimp only at hSw); go_simp; with_reducible rfl)
      case' g5qr16 => try simp only [Act.put, List.setIfInBounds_toArray, List.set_cons_zero, List.set_cons_succ]
      refine wpAnyH_takeL (i := 18) (v := ?g5qv18) rfl (by kernel_rfl) (by kernel_rfl) (by kernel_rfl) (fun _ _ _ h => h) (Or.inl ⟨by rfl, ?g5qy18⟩) (by assumption) ?g5qr18
      case g5qy18 => first | (intro w hSw; (try dsimp only at hSw); go_simp; done) | (intro w hSw; (try dsimp only at hSw); go_simp; with_reducible rfl)
      case' g5qr18 => try simp only [Act.put, List.setIfInBounds_toArray, List.set_cons_zero, List.set_cons_succ]
      refine wpAnyH_ready (rs := [17]) (by kernel_rfl) (by simp) ?_
      refine AllReadyH.consL rfl (fun K hK => ?_) AllReadyH.nil
      go_simp
      go_at_call 103
      refine (kept_any _ i s HO.out).mono ?_
      rintro e w7 ⟨rfl, hx7⟩
      rw [HK.out]
      have HX7 := hid ((Ext.refl w1).drew.trans hx7)
      clear hx7
      simp only [inV]
      refine hK.out _ _ (HB.out.ext HX7.out).conj (fun hSg5q3 => ?_)
      clear hK K
      try simp only [Act.put, List.setIfInBounds_toArray, List.set_cons_zero, List.set_cons_succ]
      refine wpAnyH_takeL (i := 19) (v := ?g5qv19) rfl (by kernel_rfl) (by kernel_rfl) (by kernel_rfl) (fun _ _ _ h => h) (Or.inl ⟨by rfl, ?g5qy19⟩) (by assumption) ?g5qr19
      case g5qy19 => first | (intro w hSw; (try dsimp only at hSw); go_simp; done) | (intro w hSw; (try dsimp only at hSw); go_simp; with_reducible rfl)
      case' g5qr19 => try simp only [Act.put, List.setIfInBounds_toArray, List.set_cons_zero, List.set_cons_succ]
      refine wpAnyH_takeL (i := 20) (v := ?g5qv20) rfl (by kernel_rfl) (by kernel_rfl) (by kernel_rfl) (fun _ _ _ h => h) (Or.inl ⟨by rfl, ?g5qy20⟩) (by assumption) ?g5qr20
      case g5qy20 => first | (intro w hSw; (try dsimp only at hSw); go_simp; done) | (intro w hSw; (try dsimp only at hSw); go_simp; with_reducible rfl)
      case' g5qr20 => try simp only [Act.put, List.setIfInBounds_toArray, List.set_cons_zero, List.set_cons_succ]
      refine wpAnyH_done (by kernel_rfl) ?_ _
      clear heq
      have HKI : Hid (¬ (regB i.a = false ∨ regB i.b = false ∨ keptI i s ≠ i)) := hid (by
        have h := of_decide_eq_true HD.out
        rw [HA.out, HBB.out, HK.out]
        simp [h])
      have her : isaErr i = if ((s = 4 ∨ s = 5) ∧ narrowB i.imm = false) ∨ (s = 7 ∧ narrowB (w32d ((i.imm : Int) - i.addr - 2)) = false) then 7 else 0 := by
        unfold isaErr
        rw [HO.out]
        simp only []
        rw [if_neg HKI.out]
      have HER := hid her
      have HEE := hid (HE.out.trans (HX1.out.trans HX7.out))
      obtain ⟨c0, c1, c2, c3, c4, c5, c6, c7, c8⟩ := HB.out.ext HX7.out
      clear her c2 c3 c4 c5 c6 c7 c8
      by_cases h4 : s = 4 ∨ s = 5
      · obtain ⟨d, hd⟩ : ∃ d, narrowB i.imm = d := ⟨_, rfl⟩
        have HN := hid hd
        clear hd
        cases d with
        | false =>
          have HE2 : Hid (isaErr i = 7) := hid (by rw [HER.out, if_pos (.inl ⟨h4, HN.out⟩)])
          rcases h4 with rfl | rfl
          all_goals
            go_wp2_with fail
            refine (narrow_any _ _).mono ?_
            rintro e w9 ⟨rfl, hw9⟩
            subst hw9
            rw [HN.out]
            go_wp2
            go_ret3
            exact chk_bad 7 (by omega) HE2.out HEE.out (by simp)
        | true =>
          have HE2 : Hid (isaErr i = 0) := hid (by rw [HER.out, if_neg (by rintro (⟨-, h⟩ | ⟨h, -⟩) <;> first | omega | (rw [HN.out] at h; cases h))])
          rcases h4 with rfl | rfl
          · go_wp2_with fail
            refine (narrow_any _ _).mono ?_
            rintro e w9 ⟨rfl, hw9⟩
            subst hw9
            rw [HN.out]
            go_wp2
            go_ret3
            exact chk_ok (c := c) (s := 4) HE2.out HO.out HEE.out (by simp)
          · go_wp2_with fail
            refine (narrow_any _ _).mono ?_
            rintro e w9 ⟨rfl, hw9⟩
            subst hw9
            rw [HN.out]
            go_wp2
            go_ret3
            exact chk_ok (c := c) (s := 5) HE2.out HO.out HEE.out (by simp)
      · have n4 : ((s : Int) == 4) = false := by simp; omega
        have n5 : ((s : Int) == 5) = false := by simp; omega
        have HN4 := hid h4
        clear h4
        by_cases h7 : s = 7
        · subst h7
          clear n4 n5
          obtain ⟨z, hz⟩ : ∃ z, w32d ((i.imm : Int) - i.addr - 2) = z := ⟨_, rfl⟩
          have e7 : ((i.imm : Int) - (i.addr : Int) - 2) % 4294967296 = (z : Int) := by
            rw [← hz]
            unfold w32d
            omega
          have HE7 := hid e7
          clear e7
          obtain ⟨d, hd⟩ : ∃ d, narrowB z = d := ⟨_, rfl⟩
          have HN := hid hd
          have HZZ := hid hz
          clear hd hz
          cases d with
          | false =>
            have HE2 : Hid (isaErr i = 7) := hid (by rw [HER.out, if_pos (.inr ⟨rfl, by rw [HZZ.out]; exact HN.out⟩)])
            go_wp2_with fail
            rw [HE7.out]
            refine (narrow_any _ _).mono ?_
            rintro e w9 ⟨rfl, hw9⟩
            subst hw9
            rw [HN.out]
            go_wp2
            go_ret3
            exact chk_bad 7 (by omega) HE2.out HEE.out (by simp)
          | true =>
            have HE2 : Hid (isaErr i = 0) := hid (by rw [HER.out, HZZ.out, HN.out]; simp)
            go_wp2_with fail
            rw [HE7.out]
            refine (narrow_any _ _).mono ?_
            rintro e w9 ⟨rfl, hw9⟩
            subst hw9
            rw [HN.out]
            go_wp2
            go_ret3
            exact chk_ok (c := c) (s := 7) HE2.out HO.out HEE.out (by simp)
        · have n7 : ((s : Int) == 7) = false := by simp; omega
          have HE2 : Hid (isaErr i = 0) := hid (by rw [HER.out, if_neg]; have := HN4.out; omega)
          clear h7
          go_wp2
          go_ret3
          exact chk_ok (c := c) (s := s) HE2.out HO.out HEE.out (by simp)
end Go.Proofs.YtnlmhnbogleijaaGreatDoor

namespace Go.Proofs.YtnlmhnbogleijaaGreatDoor
open Go.RowKit Go.Deco
set_option linter.unusedSimpArgs false
set_option linter.unusedVariables false

theorem shapeLen_le (s : Nat) : shapeLen s ≤ 6 := by
  unfold shapeLen
  match s with
  | 0 | 1 | 2 | 3 | 4 | 5 | 6 | 7 | 8 => decide
  | s + 9 => simp
theorem isaLen_le (i : In) : isaLen i ≤ 6 := by
  unfold isaLen
  split
  · exact shapeLen_le _
  · omega

set_option maxRecDepth 100000 in
set_option maxHeartbeats 4000000 in
theorem isalen_any (w : World) (i : In) (hi : InOk i) : Calls Tryz.prog 75 #[inV i] w fun e w' => e = .returned (.int .i64 (isaLen i)) ∧ Ext w w' := by
  have hck := check3_any
  obtain ⟨W0, hW0⟩ : ∃ W0, w.alloc (.cells #[.int .u32 i.addr, .int .u32 i.imm, .int .i64 i.op, .int .i64 i.form, .int .i64 i.width, .int .i64 i.cc, .int .i64 i.a, .int .i64 i.b, .int .i64 i.size] 77) = W0 := ⟨_, rfl⟩
  have hE : Ext w W0 := by rw [← hW0]; exact (Ext.refl w).alloc _
  have hB : Box9 W0 w.heap.size i := by rw [← hW0]; exact Box9.new w i _
  have HE := hid hE
  have HB := hid hB
  obtain ⟨c0, c1, c2, c3, c4, c5, c6, c7, c8⟩ := hB
  have e : inV i = .agg #[.int .u32 i.addr, .int .u32 i.imm, .int .i64 i.op, .int .i64 i.form, .int .i64 i.width, .int .i64 i.cc, .int .i64 i.a, .int .i64 i.b, .int .i64 i.size] := rfl
  rw [e]
  clear e hE
  have HCK := hid (hck W0 i hi)
  have HI := hid hi
  clear hck hi
  go_enter Tryz.func75, Tryz.ntmps75
  go_wp2_with fail
  clear hW0 c0 c1 c2 c3 c4 c5 c6 c7 c8
  refine (HCK.out).mono ?_
  rintro e w1 ⟨hx1, c, s, rfl, hs⟩
  have HX1 := hid (HE.out.trans hx1)
  obtain ⟨er, her⟩ : ∃ er, isaErr i = er := ⟨_, rfl⟩
  rw [her] at hs ⊢
  have HER := hid her
  have HSS := hid hs
  clear hx1 hs her HCK
  by_cases h0 : er = 0
  · subst h0
    have hsh := HSS.out rfl
    have hle := shape_le hsh
    have HSH := hid hsh
    have HLE := hid hle
    clear hsh hle
    go_wp2_with fail
    refine (size_any _ s HLE.out).mono ?_
    rintro e w2 ⟨rfl, hw2⟩
    subst hw2
    go_wp2
    go_ret
    refine ⟨?_, HX1.out⟩
    have : isaLen i = shapeLen s := by
      unfold isaLen
      rw [if_pos HER.out, HSH.out]
      rfl
    rw [this]
    simp
  · have n1 : ((er : Int) != 0) = true := by simpa using h0
    have H0 := hid h0
    clear h0
    go_wp2
    go_ret
    refine ⟨?_, HX1.out⟩
    have : isaLen i = 0 := by
      unfold isaLen
      rw [if_neg (by rw [HER.out]; exact H0.out)]
    rw [this]
    simp

set_option maxRecDepth 100000 in
set_option maxHeartbeats 4000000 in
theorem isanext_any (w : World) (i : In) (hi : InOk i) : Calls Tryz.prog 53 #[inV i] w fun e w' => e = .returned (.int .u32 (nextI i)) ∧ Ext w w' := by
  have hck := isalen_any
  obtain ⟨W0, hW0⟩ : ∃ W0, w.alloc (.cells #[.int .u32 i.addr, .int .u32 i.imm, .int .i64 i.op, .int .i64 i.form, .int .i64 i.width, .int .i64 i.cc, .int .i64 i.a, .int .i64 i.b, .int .i64 i.size] 77) = W0 := ⟨_, rfl⟩
  have hE : Ext w W0 := by rw [← hW0]; exact (Ext.refl w).alloc _
  have hB : Box9 W0 w.heap.size i := by rw [← hW0]; exact Box9.new w i _
  have HE := hid hE
  have HB := hid hB
  obtain ⟨c0, c1, c2, c3, c4, c5, c6, c7, c8⟩ := hB
  have e : inV i = .agg #[.int .u32 i.addr, .int .u32 i.imm, .int .i64 i.op, .int .i64 i.form, .int .i64 i.width, .int .i64 i.cc, .int .i64 i.a, .int .i64 i.b, .int .i64 i.size] := rfl
  rw [e]
  clear e hE
  have HCK := hid (hck W0.drew i hi)
  clear hck hi
  obtain ⟨n, hn⟩ : ∃ n, isaLen i = n := ⟨_, rfl⟩
  have hn6 := isaLen_le i
  rw [hn] at HCK hn6
  obtain ⟨v, hv⟩ : ∃ v, nextI i = v := ⟨_, rfl⟩
  rw [hv]
  have e1 : IntKind.u32.wrap (n : Int) = (n : Int) := IntWalk.u32_in _ (by omega)
  have e2 : IntKind.u32.wrap ((i.addr : Int) + (n : Int)) = (v : Int) := by
    rw [← hv, nextI, hn, IntKind.wrap_u32]
    unfold w32d
    omega
  clear hn hv hn6
  go_enter Tryz.func53, Tryz.ntmps53
  go_wp2_with fail
  refine wp_region_held_drew (S := (fun w' => w'.cell? ⟨w.heap.size, 0, none⟩ = some (.int .u32 i.addr) ∧ w'.cell? ⟨w.heap.size, 1, none⟩ = some (.int .u32 i.imm) ∧ w'.cell? ⟨w.heap.size, 2, none⟩ = some (.int .i64 i.op) ∧ w'.cell? ⟨w.heap.size, 3, none⟩ = some (.int .i64 i.form) ∧ w'.cell? ⟨w.heap.size, 4, none⟩ = some (.int .i64 i.width) ∧ w'.cell? ⟨w.heap.size, 5, none⟩ = some (.int .i64 i.cc) ∧ w'.cell? ⟨w.heap.size, 6, none⟩ = some (.int .i64 i.a) ∧ w'.cell? ⟨w.heap.size, 7, none⟩ = some (.int .i64 i.b) ∧ w'.cell? ⟨w.heap.size, 8, none⟩ = some (.int .i64 i.size))) (by kernel_rfl) (HB.out.ext (Ext.refl W0).drew).conj (fun hSg1q0 => ?_)
  refine wpAnyH_takeL (i := 0) (v := ?g1qv0) rfl (by kernel_rfl) (by kernel_rfl) (by kernel_rfl) (fun _ _ _ h => h) (Or.inl ⟨by rfl, ?g1qy0⟩) (by assumption) ?g1qr0
  case g1qy0 => first | (intro w hSw; (try dsimp only at hSw); go_simp; done) | (intro w hSw; (try dsimp only at hSw); go_simp; with_reducible rfl)
  case' g1qr0 => try simp only [Act.put, List.setIfInBounds_toArray, List.set_cons_zero, List.set_cons_succ]
  refine wpAnyH_takeL (i := 1) (v := ?g1qv1) rfl (by kernel_rfl) (by kernel_rfl) (by kernel_rfl) (fun _ _ _ h => h) (Or.inl ⟨by rfl, ?g1qy1⟩) (by assumption) ?g1qr1
  case g1qy1 => first | (intro w hSw; (try dsimp only at hSw); go_simp; done) | (intro w hSw; (try dsimp only at hSw); go_simp; with_reducible rfl)
  case' g1qr1 => try simp only [Act.put, List.setIfInBounds_toArray, List.set_cons_zero, List.set_cons_succ]
  refine wpAnyH_takeL (i := 2) (v := ?g1qv2) rfl (by kernel_rfl) (by kernel_rfl) (by kernel_rfl) (fun _ _ _ h => h) (Or.inl ⟨by rfl, ?g1qy2⟩) (by assumption) ?g1qr2
  case g1qy2 => first | (intro w hSw; (try dsimp only at hSw); go_simp; done) | (intro w hSw; (try dsimp only at hSw); go_simp; with_reducible rfl)
  case' g1qr2 => try simp only [Act.put, List.setIfInBounds_toArray, List.set_cons_zero, List.set_cons_succ]
  refine wpAnyH_ready (rs := [3]) (by kernel_rfl) (by simp) ?_
  refine AllReadyH.consL rfl (fun K hK => ?_) AllReadyH.nil
  go_simp
  go_at_call 75
  refine (HCK.out).mono ?_
  rintro e w5 ⟨rfl, hx5⟩
  have HX5 := hid ((Ext.refl W0).drew.trans hx5)
  clear hx5
  refine hK.out _ _ (HB.out.ext HX5.out).conj (fun hSg1q1 => ?_)
  clear hK K
  try simp only [Act.put, List.setIfInBounds_toArray, List.set_cons_zero, List.set_cons_succ]
  refine wpAnyH_takeL (i := 4) (v := ?g1qv4) rfl (by kernel_rfl) (by kernel_rfl) (by kernel_rfl) (fun _ _ _ h => h) (Or.inl ⟨by rfl, ?g1qy4⟩) (by assumption) ?g1qr4
  case g1qy4 => first | (intro w hSw; (try dsimp only at hSw); go_simp; done) | (intro w hSw; (try dsimp only at hSw); go_simp; with_reducible rfl)
  case' g1qr4 => try simp only [Act.put, List.setIfInBounds_toArray, List.set_cons_zero, List.set_cons_succ]
  refine wpAnyH_takeL (i := 5) (v := ?g1qv5) rfl (by kernel_rfl) (by kernel_rfl) (by kernel_rfl) (fun _ _ _ h => h) (Or.inl ⟨by rfl, ?g1qy5⟩) (by assumption) ?g1qr5
  case g1qy5 => first | (intro w hSw; (try dsimp only at hSw); go_simp; done) | (intro w hSw; (try dsimp only at hSw); go_simp; with_reducible rfl)
  case' g1qr5 => try simp only [Act.put, List.setIfInBounds_toArray, List.set_cons_zero, List.set_cons_succ]
  refine wpAnyH_takeL (i := 6) (v := ?g1qv6) rfl (by kernel_rfl) (by kernel_rfl) (by kernel_rfl) (fun _ _ _ h => h) (Or.inl ⟨by rfl, ?g1qy6⟩) (by assumption) ?g1qr6
  case g1qy6 => first | (intro w hSw; (try dsimp only at hSw); go_simp; done) | (intro w hSw; (try dsimp only at hSw); go_simp; with_reducible rfl)
  case' g1qr6 => try simp only [Act.put, List.setIfInBounds_toArray, List.set_cons_zero, List.set_cons_succ]
  refine wpAnyH_done (by kernel_rfl) ?_ _
  go_wp2
  go_ret
  exact ⟨rfl, HE.out.trans HX5.out⟩
end Go.Proofs.YtnlmhnbogleijaaGreatDoor
