/- decompilerref07: Rebase. -/
import Derived.Test.YtnlofhbimfcejaaR7D
import Derived.Test.YtnlofhbimfcejaaR7B
import Derived.Test.YtnlofhbimfcejaaRelP
namespace Go.Proofs.Ytnlofhbimfcejaa
open Go.RowKit Go.Deco
set_option linter.unusedSimpArgs false
set_option linter.unusedVariables false

/-- A block that holds none of the sections' rows. -/
def Free (v : Value) (H : List Hd) (b : Nat) : Prop := v.ownBlock ≠ some b ∧ ∀ (k : Nat) h, H[k]? = some h → h.dv.ownBlock ≠ some b
theorem SecsX.farA {w : World} {base hi : Nat} {tS t8 : TypeId} {v : Value} {H : List Hd} {l : List Sec} (x : SecsX w base hi tS t8 v H l) {p : Addr} {u : Value} (hp : Free v H p.block) : SecsX (w.setCell p u) base hi tS t8 v H l :=
  ⟨x.own.set_far hp.1 (fun _ h => h.elim), x.len, x.of, fun k h s hk hs => (x.data k h s hk hs).set_far (hp.2 k h hk) (fun _ h => h.elim), x.apart, x.sep, x.topv, x.topd⟩
theorem SecsX.grown {w w' : World} {base hi : Nat} {tS t8 : TypeId} {v : Value} {H : List Hd} {l : List Sec} (x : SecsX w base hi tS t8 v H l) {row : Option Nat} (hg : w.grownBy w' row) (hr : ∀ b, row = some b → Free v H b) : SecsX w' base hi tS t8 v H l := by
  have ne : ∀ v' : Value, (∀ b, row = some b → v'.ownBlock ≠ some b) → v'.ownBlock = none ∨ v'.ownBlock ≠ row := fun v' h => by
    cases row with
    | none => cases v'.ownBlock <;> simp
    | some b => exact .inr (h b rfl)
  exact ⟨x.own.kept hg (ne v fun b hb => (hr b hb).1) (fun _ h => h.elim), x.len, x.of, fun k h s hk hs => (x.data k h s hk hs).kept hg (ne h.dv fun b hb => (hr b hb).2 k h hk) (fun _ h => h.elim), x.apart, x.sep, x.topv, x.topd⟩
theorem free_high {w : World} {base hi : Nat} {tS t8 : TypeId} {v : Value} {H : List Hd} {l : List Sec} (x : SecsX w base hi tS t8 v H l) {b : Nat} (hb : hi ≤ b ∨ b < base) : Free v H b := by
  refine ⟨fun e => ?_, fun k h hk e => ?_⟩
  · have h1 := x.topv b e
    have h2 := x.own.block b e
    omega
  · have h1 := x.topd k h b hk e
    obtain ⟨s, hs⟩ : ∃ s, l[k]? = some s := ⟨_, List.getElem?_eq_getElem (by have := (List.getElem?_eq_some_iff.1 hk).1; have := x.len; omega)⟩
    have h2 := (x.data k h s hk hs).block b e
    omega
/-- A box for an object, not yet written. -/
structure ZOb (lo a : Nat) (w : World) : Prop where
  bx : Box4 w a (.int .u32 0) (.slice none 0 0) (.slice none 0 0) (.slice none 0 0)
  ge : lo ≤ a
theorem ZOb.ext {lo a : Nat} {w w' : World} (h : ZOb lo a w) (he : Ext w w') : ZOb lo a w' := ⟨h.bx.ext he, h.ge⟩
def ZGe (n : Nat) (w : World) : Prop := n ≤ w.heap.size
theorem ZGe.ext {n : Nat} {w w' : World} (h : ZGe n w) (he : Ext w w') : ZGe n w' := Nat.le_trans h he.size
theorem extAllocO {a w : World} (h : Ext a w) : ∃ wA sz, w.alloc (.cells #[.int .u32 0, .slice none 0 0, .slice none 0 0, .slice none 0 0] 27) = wA ∧ w.heap.size = sz ∧ Ext w wA ∧ a.heap.size ≤ sz ∧ Box4 wA sz (.int .u32 0) (.slice none 0 0) (.slice none 0 0) (.slice none 0 0) :=
  ⟨_, _, rfl, rfl, (Ext.refl w).alloc _, h.size, Box4.new w _ _ _ _ 27⟩
theorem extc3 {w w' : World} {p0 p1 p2 : Addr} {u0 u1 u2 : Value} (h : w.cell? p0 = some u0 ∧ w.cell? p1 = some u1 ∧ w.cell? p2 = some u2) (he : Ext w w') : w'.cell? p0 = some u0 ∧ w'.cell? p1 = some u1 ∧ w'.cell? p2 = some u2 := ⟨he.cell h.1, he.cell h.2.1, he.cell h.2.2⟩

theorem free_map {v : Value} {H : List Hd} {b m : Nat} (h : Free v H b) : Free v (H.map (movH m)) b := by
  refine ⟨h.1, fun k h' hk => ?_⟩
  rw [List.getElem?_map] at hk
  cases e : H[k]? with
  | none => rw [e] at hk; cases hk
  | some h0 =>
    rw [e] at hk
    injection hk with hk
    rw [← hk]
    exact h.2 k h0 e
/-- One more symbol put into the box's list. -/
theorem reb_after {w1 W2 wr w7 : World} {aZ hiX c2 j c5 en' k cS : Nat} {A2 A5 AS : Option Addr} {v3 : Value} {Hs : List Hd} {Ls : List Sec} {M2 : List Sy} {o1 o2 : Obj}
    (hB : Box4 wr aZ (.int .u32 en') (.slice AS k cS) (.slice A2 j c2) v3) (hI : SecsX wr w1.heap.size hiX 46 5 (.slice AS k cS) Hs Ls) (hX : Ext w1 wr) (hrow : ∀ b, (Value.slice A2 j c2).ownBlock = some b → W2.heap.size ≤ b ∧ b < wr.heap.size) (hsz : W2.heap.size ≤ wr.heap.size) (haz : aZ < W2.heap.size)
    (hfree : Free (.slice AS k cS) Hs aZ) (hhi : hiX ≤ W2.heap.size) (hage : w1.heap.size ≤ aZ) (ho : OwnS symR w7 W2.heap.size 68 (fun _ => False) (.slice A5 (j + 1) c5) M2) (hg : ((wr.alloc o1).alloc o2).grownBy w7 (Value.slice A2 j c2).ownBlock)
    (hl : ∀ g, (Value.slice A5 (j + 1) c5).ownBlock = some g → (Value.slice A2 j c2).ownBlock = some g ∨ (wr.alloc o1).heap.size < g) :
    w7.cell? ⟨aZ, 2, none⟩ = some (.slice A2 j c2) ∧ (∀ i, w7.frozen? ⟨aZ, i, none⟩ = false) ∧
      (SecsX (w7.setCell ⟨aZ, 2, none⟩ (.slice A5 (j + 1) c5)) w1.heap.size hiX 46 5 (.slice AS k cS) Hs Ls ∧ OwnS symR (w7.setCell ⟨aZ, 2, none⟩ (.slice A5 (j + 1) c5)) W2.heap.size 68 (fun _ => False) (.slice A5 (j + 1) c5) M2 ∧
        Box4 (w7.setCell ⟨aZ, 2, none⟩ (.slice A5 (j + 1) c5)) aZ (.int .u32 en') (.slice AS k cS) (.slice A5 (j + 1) c5) v3 ∧ Ext w1 (w7.setCell ⟨aZ, 2, none⟩ (.slice A5 (j + 1) c5)) ∧ W2.heap.size ≤ (w7.setCell ⟨aZ, 2, none⟩ (.slice A5 (j + 1) c5)).heap.size) := by
  have x2 : Ext wr ((wr.alloc o1).alloc o2) := ((Ext.refl wr).alloc o1).alloc o2
  have hw12 := hX.size
  have hB7 := (hB.ext x2).grown hg (fun e => by have := hrow _ e.symm; omega)
  have hI7 := SecsX.grown (hI.ext x2) hg (fun b hb => free_high hI (.inl (by have := hrow b hb; omega)))
  have hX7 : Ext w1 w7 := (hX.trans x2).grown hg (fun b hb => by have := hrow b hb; omega)
  have hs7 : W2.heap.size ≤ w7.heap.size := by have := hg.size; simp at this; omega
  refine ⟨hB7.2.2.1, hB7.2.2.2.2, SecsX.farA (p := ⟨aZ, 2, none⟩) hI7 hfree, ho.set_far (p := ⟨aZ, 2, none⟩) (fun e => ?_) (fun _ h => h.elim), hB7.put2 _, hX7.setCell (by exact hage) _, by simpa using hs7⟩
  have h1 := (ho.block _ e).1
  have : W2.heap.size ≤ aZ := h1
  omega

set_option maxRecDepth 100000 in
set_option maxHeartbeats 8000000 in
theorem rebase7_any (w : World) (o : Ob) (As Ay Ar : Option Addr) (ns cs ny cy nr cr : Nat) (hs : Sl secR w All (.slice As ns cs) o.secs) (hy : Sl symR w All (.slice Ay ny cy) o.syms) (hr : Sl relR w All (.slice Ar nr cr) o.rels) (m : Nat) :
    Calls Try.prog 26 #[.agg #[.int .u32 o.entry, .slice As ns cs, .slice Ay ny cy, .slice Ar nr cr], .int .u32 m] w (ObR w (rebaseR o m).1 (rebaseR o m).2) := by
  have HLS := hid hs.len
  have HLY := hid hy.len
  have HLR := hid hr.len
  have hyc := hy.cap
  obtain ⟨q, hq⟩ : ∃ q, obCheck o = q := ⟨_, rfl⟩
  have HQ := hid hq
  obtain ⟨W0, hW0⟩ : ∃ W0, (w.alloc (.cells #[.int .u32 o.entry, .slice As ns cs, .slice Ay ny cy, .slice Ar nr cr] 27)).alloc (.cells #[.int .u32 0, .slice none 0 0, .slice none 0 0, .slice none 0 0] 27) = W0 := ⟨_, rfl⟩
  have hE0 : Ext w W0 := by rw [← hW0]; exact ((Ext.refl w).alloc _).alloc _
  have hB0 : Box4 W0 w.heap.size (.int .u32 o.entry) (.slice As ns cs) (.slice Ay ny cy) (.slice Ar nr cr) := by
    rw [← hW0]
    exact (Box4.new w _ _ _ _ _).ext ((Ext.refl _).alloc _)
  have hR0 : Box4 W0 (w.heap.size + 1) (.int .u32 0) (.slice none 0 0) (.slice none 0 0) (.slice none 0 0) := by
    rw [← hW0]
    have := Box4.new (w.alloc (.cells #[.int .u32 o.entry, .slice As ns cs, .slice Ay ny cy, .slice Ar nr cr] 27)) (.int .u32 0) (.slice none 0 0) (.slice none 0 0) (.slice none 0 0) 27
    rw [World.size_alloc] at this
    exact this
  have HB0 := hid hB0
  have HR0 := hid hR0
  have HE0 := hid hE0
  have HRW := hid hr
  have HS := hid (hs.ext hE0)
  have HY := hid (hy.ext hE0)
  have HR := hid (hr.ext hE0)
  have hck := check7_any W0 o As Ay Ar ns cs ny cy nr cr HS.out HY.out HR.out
  have HCK := hid hck
  have hlt := hR0.lt
  obtain ⟨b0, b1, b2, b3, -⟩ := HB0.out
  clear hq hE0 hB0 hR0 hs hy hr hck
  go_enter Try.func26, Try.ntmps26
  go_wp2_with fail
  clear hW0 b0 b1 b2 b3
  refine (HCK.out).mono ?_
  rintro e w1 ⟨rfl, hx1⟩
  rw [HQ.out]
  have HX1 := hid hx1
  clear hx1
  by_cases h1 : q = 0
  case neg =>
    have n1 : ((q : Int) != 0) = true := by simpa using h1
    have H1 := hid h1
    obtain ⟨r0, r1, r2, r3, rf⟩ := HR0.out.ext HX1.out
    clear h1
    go_wp2
    refine bodyPost_ret (v := .tuple #[.agg #[.int .u32 0, .slice none 0 0, .slice none 0 0, .slice none 0 0], .int .i64 q]) (by simp [results, Try.results26, go_sem, World.cell?_setCell_same, World.cell?_setCell_other, r0, r1, r2, r3]) rfl ?_
    rw [rebaseR_bad (by rw [HQ.out]; exact H1.out), HQ.out]
    exact obr_zero (((((HE0.out.trans HX1.out).setCell (by simp) _).setCell (by simp) _).setCell (by simp) _).setCell (by simp) _) rfl
  subst h1
  have HBB := hid (HB0.out.ext HX1.out)
  obtain ⟨b0, b1, b2, b3, bf⟩ := HBB.out
  have HCB := hid (And.intro b0 (And.intro b1 b3))
  obtain ⟨z1, z2, z3, z4⟩ := ob_smallN HQ.out
  have HCP := hid (fun W (h : Ext w1 W) => copies5x_any W As ns cs o.secs ((HS.out.ext HX1.out).ext h) (by have := HLS.out; omega) z2)
  obtain ⟨en', hen'⟩ : ∃ en', w32 ((o.entry : Int) + m) = en' := ⟨_, rfl⟩
  have HEN := hid hen'
  have e1 : IntKind.u32.wrap ((o.entry : Int) + m) = (en' : Int) := by rw [wrap_w32, hen']
  have hz3 : ny ≤ 256 := by have := HLY.out; omega
  clear hen' z1 z2 z3 z4 bf b2
  go_wp2_with fail
  have HXg1q_0 := hid ((Ext.refl w1).drew)
  refine wp_region_held_drew (S := (fun w' => w'.cell? ⟨w.heap.size, 0, none⟩ = some (.int .u32 o.entry) ∧ w'.cell? ⟨w.heap.size, 1, none⟩ = some (.slice As ns cs) ∧ w'.cell? ⟨w.heap.size, 3, none⟩ = some (.slice Ar nr cr))) (by kernel_rfl) ⟨b0, b1, b3⟩ (fun hSg1q0 => ?_)
  refine wpAnyH_takeL (i := 0) (v := ?g1qv0x1) rfl (by kernel_rfl) (by kernel_rfl) (by kernel_rfl) (fun _ _ _ h => h) (Or.inl ⟨by rfl, ?g1qy0x1⟩) (by assumption) ?g1qr0x1
  case g1qy0x1 => first | (intro w hSw; (try dsimp only at hSw); go_simp; done) | (intro w hSw; (try dsimp only at hSw); go_simp; with_reducible rfl)
  case' g1qr0x1 => try simp only [Act.put, List.setIfInBounds_toArray, List.set_cons_zero, List.set_cons_succ]
  refine wpAnyH_takeL (i := 1) (v := ?g1qv1x2) rfl (by kernel_rfl) (by kernel_rfl) (by kernel_rfl) (fun _ _ _ h => h) (Or.inl ⟨by rfl, ?g1qy1x2⟩) (by assumption) ?g1qr1x2
  case g1qy1x2 => first | (intro w hSw; (try dsimp only at hSw); go_simp; done) | (intro w hSw; (try dsimp only at hSw); go_simp; with_reducible rfl)
  case' g1qr1x2 => try simp only [Act.put, List.setIfInBounds_toArray, List.set_cons_zero, List.set_cons_succ]
  refine wpAnyH_takeL (i := 2) (v := ?g1qv2x3) rfl (by kernel_rfl) (by kernel_rfl) (by kernel_rfl) (fun _ _ _ h => h) (Or.inl ⟨by rfl, ?g1qy2x3⟩) (by assumption) ?g1qr2x3
  case g1qy2x3 => first | (intro w hSw; (try dsimp only at hSw); go_simp; done) | (intro w hSw; (try dsimp only at hSw); go_simp; with_reducible rfl)
  case' g1qr2x3 => try simp only [Act.put, List.setIfInBounds_toArray, List.set_cons_zero, List.set_cons_succ]
  refine wpAnyH_takeL (i := 3) (v := ?g1qv3x4) rfl (by kernel_rfl) (by kernel_rfl) (by kernel_rfl) (fun _ _ _ h => h) (Or.inl ⟨by rfl, ?g1qy3x4⟩) (by assumption) ?g1qr3x4
  case g1qy3x4 => first | (intro w hSw; (try dsimp only at hSw); go_simp; done) | (intro w hSw; (try dsimp only at hSw); go_simp; with_reducible rfl)
  case' g1qr3x4 => try simp only [Act.put, List.setIfInBounds_toArray, List.set_cons_zero, List.set_cons_succ]
  refine wpAnyH_takeL (i := 4) (v := ?g1qv4x5) rfl (by kernel_rfl) (by kernel_rfl) (by kernel_rfl) (fun _ _ _ h => h) (Or.inl ⟨by rfl, ?g1qy4x5⟩) (by assumption) ?g1qr4x5
  case g1qy4x5 => first | (intro w hSw; (try dsimp only at hSw); go_simp; done) | (intro w hSw; (try dsimp only at hSw); go_simp; with_reducible rfl)
  case' g1qr4x5 => try simp only [Act.put, List.setIfInBounds_toArray, List.set_cons_zero, List.set_cons_succ]
  refine wpAnyH_takeL (i := 5) (v := ?g1qv5x6) rfl (by kernel_rfl) (by kernel_rfl) (by kernel_rfl) (fun _ _ _ h => h) (Or.inl ⟨by rfl, ?g1qy5x6⟩) (by assumption) ?g1qr5x6
  case g1qy5x6 => first | (intro w hSw; (try dsimp only at hSw); go_simp; done) | (intro w hSw; (try dsimp only at hSw); go_simp; with_reducible rfl)
  case' g1qr5x6 => try simp only [Act.put, List.setIfInBounds_toArray, List.set_cons_zero, List.set_cons_succ]
  refine wpAnyH_takeL (i := 7) (v := ?g1qv7x7) rfl (by kernel_rfl) (by kernel_rfl) (by kernel_rfl) (fun _ _ _ h => h) (Or.inl ⟨by rfl, ?g1qy7x7⟩) (by assumption) ?g1qr7x7
  case g1qy7x7 => first | (intro w hSw; (try dsimp only at hSw); go_simp; done) | (intro w hSw; (try dsimp only at hSw); go_simp; with_reducible rfl)
  case' g1qr7x7 => try simp only [Act.put, List.setIfInBounds_toArray, List.set_cons_zero, List.set_cons_succ]
  refine wpAnyH_takeL (i := 8) (v := ?g1qv8x8) rfl (by kernel_rfl) (by kernel_rfl) (by kernel_rfl) (fun _ _ _ h => h) (Or.inl ⟨by rfl, ?g1qy8x8⟩) (by assumption) ?g1qr8x8
  case g1qy8x8 => first | (intro w hSw; (try dsimp only at hSw); go_simp; done) | (intro w hSw; (try dsimp only at hSw); go_simp; with_reducible rfl)
  case' g1qr8x8 => try simp only [Act.put, List.setIfInBounds_toArray, List.set_cons_zero, List.set_cons_succ]
  refine wpAnyH_ready (rs := [6, 10]) (by kernel_rfl) (by simp) ?_
  refine (AllReadyH.consL rfl (fun K hK => ?g1qb6x9) (AllReadyH.consL rfl (fun K hK => ?g1qb10x9) AllReadyH.nil))
  case' g1qb6x9 =>
    go_simp
    go_at_call 42
    refine (HCP.out _ HXg1q_0.out).mono ?_
    rintro e wL ⟨hEg1q1, AS, cS, H, rfl, hsx⟩
    obtain ⟨hiX, hhX⟩ : ∃ hiX, wL.heap.size = hiX := ⟨_, rfl⟩
    rw [hhX] at hsx
    have HSX := hid hsx
    have HHI := hid (show ZGe hiX wL from Nat.le_of_eq hhX.symm)
    have HBX := hid HXg1q_0.out.size
    try have HAS := hid HZB.out.bx.lt
    clear hsx hhX
    have HXg1q_1 := hid (HXg1q_0.out.trans hEg1q1)
    clear hEg1q1
    refine hK.out _ _ (extc3 HCB.out HXg1q_1.out) (fun hSg1q1 => ?_)
    clear hK K
    try simp only [Act.put, List.setIfInBounds_toArray, List.set_cons_zero, List.set_cons_succ]
    refine wpAnyH_takeL (i := 9) (v := ?g1qv9x10) rfl (by kernel_rfl) (by kernel_rfl) (by kernel_rfl) (fun _ _ _ h => h) (Or.inl ⟨by rfl, ?g1qy9x10⟩) (by assumption) ?g1qr9x10
    case g1qy9x10 => first | (intro w hSw; (try dsimp only at hSw); go_simp; done) | (intro w hSw; (try dsimp only at hSw); go_simp; with_reducible rfl)
    case' g1qr9x10 => try simp only [Act.put, List.setIfInBounds_toArray, List.set_cons_zero, List.set_cons_succ]
    refine wpAnyH_ready (rs := [10]) (by kernel_rfl) (by simp) ?_
    refine (AllReadyH.consL rfl (fun K hK => ?g1qb10x11) AllReadyH.nil)
    case' g1qb10x11 =>
      go_simp
      obtain ⟨wL, aZ, hA1, hsz, hEg1q2, hge, hob⟩ := extAllocO HXg1q_1.out
      refine Eq.mpr (congrArg (K _) hA1) ?_
      first | rw [hsz] | (have hq : w1.heap.size = aZ := hsz; rw [hq]; clear hq) | skip
      have HZB := hid (show ZOb w1.heap.size aZ wL from ⟨hob, hge⟩)
      try have HAL := hid (show hiX ≤ aZ from Nat.le_trans HHI.out (Nat.le_of_eq hsz))
      clear hA1 hsz hge hob
      have HXg1q_2 := hid (HXg1q_1.out.trans hEg1q2)
      have HSX := hid (HSX.out.ext hEg1q2)
      have HHI := hid (HHI.out.ext hEg1q2)
      clear hEg1q2
      refine hK.out _ _ (extc3 HCB.out HXg1q_2.out) (fun hSg1q2 => ?_)
      clear hK K
      try simp only [Act.put, List.setIfInBounds_toArray, List.set_cons_zero, List.set_cons_succ]
      refine wpAnyH_ready (rs := [11]) (by kernel_rfl) (by simp) ?_
      refine (AllReadyH.consL rfl (fun K hK => ?g1qb11x12) AllReadyH.nil)
      case' g1qb11x12 =>
        have HXend := HXg1q_2
        have z0 := HZB.out.bx.1
        have z1 := HZB.out.bx.2.1
        have z2 := HZB.out.bx.2.2.1
        have z3 := HZB.out.bx.2.2.2.1
        have zf := HZB.out.bx.2.2.2.2
        go_simp
        refine hK.out _ _ (extc3 HCB.out ((((HXg1q_2.out.setCell HZB.out.ge _).setCell HZB.out.ge _).setCell HZB.out.ge _).setCell HZB.out.ge _)) (fun hSg1q3 => ?_)
        clear hK K
        try simp only [Act.put, List.setIfInBounds_toArray, List.set_cons_zero, List.set_cons_succ]
        refine wpAnyH_done (by kernel_rfl) ?_ _
        have hfree : Free (.slice AS o.secs.length cS) H aZ := free_high HSX.out (by first | exact .inl HAL.out | exact .inr HAS.out)
        have hbig : ∀ b, w1.heap.size ≤ b → True := fun _ _ => trivial
        obtain ⟨W2, hW2⟩ : ∃ W2, (((wL.setCell ⟨aZ, 0, none⟩ (.int .u32 en')).setCell ⟨aZ, 1, none⟩ (.slice AS o.secs.length cS)).setCell ⟨aZ, 2, none⟩ (.slice none 0 0)).setCell ⟨aZ, 3, none⟩ (.slice Ar nr cr) = W2 := ⟨_, rfl⟩
        have hbx := ((((HZB.out.bx).put0 (.int .u32 en')).put1 (.slice AS o.secs.length cS)).put2 (.slice none 0 0)).put3 (.slice Ar nr cr)
        have hsx2 := SecsX.farA (p := ⟨aZ, 3, none⟩) (u := .slice Ar nr cr) (SecsX.farA (p := ⟨aZ, 2, none⟩) (u := .slice none 0 0) (SecsX.farA (p := ⟨aZ, 1, none⟩) (u := .slice AS o.secs.length cS) (SecsX.farA (p := ⟨aZ, 0, none⟩) (u := .int .u32 en') HSX.out hfree) hfree) hfree) hfree
        have hEx : Ext w1 W2 := by rw [← hW2]; exact ((((HXend.out.setCell HZB.out.ge _).setCell HZB.out.ge _).setCell HZB.out.ge _).setCell HZB.out.ge _)
        rw [hW2] at hbx hsx2
        rw [hW2]
        have hhi : hiX ≤ W2.heap.size := by rw [← hW2]; simpa using (show hiX ≤ wL.heap.size from HHI.out)
        have HHF := hid hhi
        have HOB := hid hbx
        have HSX2 := hid (hsx2.lower HBX.out)
        have HX2 := hid hEx
        have HGE := hid HZB.out.ge
        have HFREE := hid hfree
        have hazl := hbx.lt
        have HAZL := hid hazl
        have hcS := hsx2.own.sl.cap
        have HLX := hid hsx2.len
        clear hW2 hsx2 hEx hfree hbig hhi HSX hazl
        obtain ⟨s0, s1, s2, s3, sf⟩ := hbx
        obtain ⟨t0, t1, t2, t3, tf⟩ := HBB.out.ext HX2.out
        go_wp2
        clear s0 s1 s2 s3 sf t0 t1 t2 t3 tf
        obtain ⟨n1, hn1⟩ : ∃ n1, o.secs.length = n1 := ⟨_, rfl⟩
        rw [hn1] at HOB HSX2 HFREE hcS ⊢
        have HFREE7 : Hid (Free (.slice AS n1 cS) (H.map (movH m)) aZ) := hid (free_map HFREE.out)
        have HN1 := hid hn1
        clear hn1
        go_loopw [8] (fun i wr => ∃ k : Nat, k ≤ n1 ∧ i = .int .i64 k ∧ Hid (SecsX wr w1.heap.size hiX 46 5 (.slice AS n1 cS) (mapTo (movH m) k H) (mapTo (movS m) k o.secs)) ∧ Hid (Box4 wr aZ (.int .u32 en') (.slice AS n1 cS) (.slice none 0 0) (.slice Ar nr cr)) ∧ Hid (Ext w1 wr) ∧ Hid (W2.heap.size ≤ wr.heap.size)) (fun i _ => n1 - (intOf i).toNat)
        case atStart => exact ⟨0, by omega, rfl, hid (by rw [mapTo_zero, mapTo_zero]; exact HSX2.out), HOB, HX2, hid (Nat.le_refl _)⟩
        case round =>
          obtain ⟨k, hk, rfl, HI, HBX2, HX, HSZ⟩ := hrel
          obtain ⟨s0, s1, s2, s3, sf⟩ := HBX2.out
          by_cases h1 : k < n1
          · obtain ⟨s, hs⟩ : ∃ s, o.secs[k]? = some s := ⟨_, List.getElem?_eq_getElem (by have := HN1.out; omega)⟩
            obtain ⟨h, hh⟩ : ∃ h, H[k]? = some h := ⟨_, List.getElem?_eq_getElem (by have := HN1.out; have := HLX.out; omega)⟩
            have hh2 := mapTo_at (f := movH m) hh
            have hs2 := mapTo_at (f := movS m) hs
            obtain ⟨g, rfl, hgb⟩ := HI.out.own.at0 (by omega)
            have had := (HI.out.of k h s hh2 hs2).2.1
            obtain ⟨m1, f1⟩ := hdrP.cell HI.out.own hh2 (i := 1) rfl
            rw [show k * hdrR.size + 1 = k * 5 + 1 from rfl] at m1 f1
            obtain ⟨a, ha⟩ : ∃ a, w32 ((h.addr : Int) + m) = a := ⟨_, rfl⟩
            have e1 : IntKind.u32.wrap ((h.addr : Int) + m) = (a : Int) := by rw [wrap_w32, ha]
            have hal : a < 4294967296 := by rw [← ha]; exact w32_lt _
            have hstep := SecsX.addr HI.out hh2 hs2 a hal
            have eH : (mapTo (movH m) k H).set k { h with addr := a } = mapTo (movH m) (k + 1) H := by rw [← mapTo_step hh, movH, ha]
            have eS : (mapTo (movS m) k o.secs).set k { s with addr := a } = mapTo (movS m) (k + 1) o.secs := by rw [← mapTo_step hs, movS, ← had, ha]
            rw [eH, eS] at hstep
            have hga : g ≠ aZ := fun e => HFREE.out.1 (by rw [e]; rfl)
            have HSTEP := hid hstep
            have HB5 := hid (HBX2.out.far (p := ⟨g, k * 5 + 1, none⟩) (u := .int .u32 a) hga)
            have HX5 := hid (HX.out.setCell (p := ⟨g, k * 5 + 1, none⟩) hgb.1 (.int .u32 a))
            have HSZ5 : Hid (W2.heap.size ≤ (wr.setCell ⟨g, k * 5 + 1, none⟩ (.int .u32 a)).heap.size) := hid (by simpa using HSZ.out)
            have i1 : (0 : Int) ≤ (k : Int) := by omega
            have i2 : (k : Int) < (n1 : Int) := by omega
            obtain ⟨W5, hW5⟩ : ∃ W5, wr.drew.setCell ⟨g, k * 5 + 1, none⟩ (.int .u32 a) = W5 := ⟨_, rfl⟩
            have f1d : wr.drew.frozen? ⟨g, k * 5 + 1, none⟩ = false := f1
            have m1d : wr.drew.cell? ⟨g, k * 5 + 1, none⟩ = some (.int .u32 h.addr) := m1
            have HST5 : Hid (SecsX W5 w1.heap.size hiX 46 5 (.slice (some ⟨g, 0, none⟩) n1 cS) (mapTo (movH m) (k + 1) H) (mapTo (movS m) (k + 1) o.secs)) := hid (by
              have := SecsX.addr (HI.out.ext (Ext.refl wr).drew) hh2 hs2 a hal
              rw [eH, eS, hW5] at this
              exact this)
            have HB6 : Hid (Box4 W5 aZ (.int .u32 en') (.slice (some ⟨g, 0, none⟩) n1 cS) (.slice none 0 0) (.slice Ar nr cr)) := hid (by rw [← hW5]; exact (HBX2.out.ext (Ext.refl wr).drew).far hga)
            have HX6 : Hid (Ext w1 W5) := hid (by rw [← hW5]; exact HX.out.drew.setCell hgb.1 _)
            have HSZ6 : Hid (W2.heap.size ≤ W5.heap.size) := hid (by rw [← hW5]; simpa using HSZ.out)
            clear hs hh hh2 hs2 had ha hal hstep eH eS hgb HSTEP HB5 HX5 HSZ5 hga
            go_wp2_with fail
            refine wp_region_split 13 (by kernel_rfl) rfl rfl (by kernel_rfl) (fun w' => w'.cell? ⟨aZ, 1, none⟩ = some (.slice (some ⟨g, 0, none⟩) n1 cS) ∧ w'.cell? ⟨g, k * 5 + 1, none⟩ = some (.int .u32 h.addr)) ⟨s1, m1⟩ (fun hSg2q0 => ?_)
            refine wpAnyH_takeL (i := 0) (v := ?g2qv0) rfl (by kernel_rfl) (by kernel_rfl) (by kernel_rfl) (fun _ _ _ h => h) (Or.inl ⟨by rfl, ?g2qy0⟩) (by assumption) ?g2qr0
            case g2qy0 => first | (intro w hSw; (try dsimp only at hSw); go_simp; done) | (intro w hSw; (try dsimp only at hSw); go_simp; with_reducible rfl)
            case' g2qr0 => try simp only [Act.put, List.setIfInBounds_toArray, List.set_cons_zero, List.set_cons_succ]
            refine wpAnyH_takeL (i := 1) (v := ?g2qv1) rfl (by kernel_rfl) (by kernel_rfl) (by kernel_rfl) (fun _ _ _ h => h) (Or.inl ⟨by rfl, ?g2qy1⟩) (by assumption) ?g2qr1
            case g2qy1 => first | (intro w hSw; (try dsimp only at hSw); go_simp; done) | (intro w hSw; (try dsimp only at hSw); go_simp; with_reducible rfl)
            case' g2qr1 => try simp only [Act.put, List.setIfInBounds_toArray, List.set_cons_zero, List.set_cons_succ]
            refine wpAnyH_takeL (i := 2) (v := ?g2qv2) rfl (by kernel_rfl) (by kernel_rfl) (by kernel_rfl) (fun _ _ _ h => h) (Or.inl ⟨by rfl, ?g2qy2⟩) (by assumption) ?g2qr2
            case g2qy2 => first | (intro w hSw; (try dsimp only at hSw); go_simp; done) | (intro w hSw; (try dsimp only at hSw); go_simp; with_reducible rfl)
            case' g2qr2 => try simp only [Act.put, List.setIfInBounds_toArray, List.set_cons_zero, List.set_cons_succ]
            refine wpAnyH_takeL (i := 3) (v := ?g2qv3) rfl (by kernel_rfl) (by kernel_rfl) (by kernel_rfl) (fun _ _ _ h => h) (Or.inl ⟨by rfl, ?g2qy3⟩) (by assumption) ?g2qr3
            case g2qy3 => first | (intro w hSw; (try dsimp only at hSw); go_simp; done) | (intro w hSw; (try dsimp only at hSw); go_simp; with_reducible rfl)
            case' g2qr3 => try simp only [Act.put, List.setIfInBounds_toArray, List.set_cons_zero, List.set_cons_succ]
            refine wpAnyH_takeL (i := 4) (v := ?g2qv4) rfl (by kernel_rfl) (by kernel_rfl) (by kernel_rfl) (fun _ _ _ h => h) (Or.inl ⟨by rfl, ?g2qy4⟩) (by assumption) ?g2qr4
            case g2qy4 => first | (intro w hSw; (try dsimp only at hSw); go_simp; done) | (intro w hSw; (try dsimp only at hSw); go_simp; with_reducible rfl)
            case' g2qr4 => try simp only [Act.put, List.setIfInBounds_toArray, List.set_cons_zero, List.set_cons_succ]
            refine wpAnyH_takeL (i := 5) (v := ?g2qv5) rfl (by kernel_rfl) (by kernel_rfl) (by kernel_rfl) (fun _ _ _ h => h) (Or.inl ⟨by rfl, ?g2qy5⟩) (by assumption) ?g2qr5
            case g2qy5 => first | (intro w hSw; (try dsimp only at hSw); go_simp; done) | (intro w hSw; (try dsimp only at hSw); go_simp; with_reducible rfl)
            case' g2qr5 => try simp only [Act.put, List.setIfInBounds_toArray, List.set_cons_zero, List.set_cons_succ]
            refine wpAnyH_takeL (i := 6) (v := ?g2qv6) rfl (by kernel_rfl) (by kernel_rfl) (by kernel_rfl) (fun _ _ _ h => h) (Or.inl ⟨by rfl, ?g2qy6⟩) (by assumption) ?g2qr6
            case g2qy6 => first | (intro w hSw; (try dsimp only at hSw); go_simp; done) | (intro w hSw; (try dsimp only at hSw); go_simp; with_reducible rfl)
            case' g2qr6 => try simp only [Act.put, List.setIfInBounds_toArray, List.set_cons_zero, List.set_cons_succ]
            refine wpAnyH_takeL (i := 7) (v := ?g2qv7) rfl (by kernel_rfl) (by kernel_rfl) (by kernel_rfl) (fun _ _ _ h => h) (Or.inl ⟨by rfl, ?g2qy7⟩) (by assumption) ?g2qr7
            case g2qy7 => first | (intro w hSw; (try dsimp only at hSw); go_simp; done) | (intro w hSw; (try dsimp only at hSw); go_simp; with_reducible rfl)
            case' g2qr7 => try simp only [Act.put, List.setIfInBounds_toArray, List.set_cons_zero, List.set_cons_succ]
            refine wpAnyH_takeL (i := 8) (v := ?g2qv8) rfl (by kernel_rfl) (by kernel_rfl) (by kernel_rfl) (fun _ _ _ h => h) (Or.inl ⟨by rfl, ?g2qy8⟩) (by assumption) ?g2qr8
            case g2qy8 => first | (intro w hSw; (try dsimp only at hSw); go_simp; done) | (intro w hSw; (try dsimp only at hSw); go_simp; with_reducible rfl)
            case' g2qr8 => try simp only [Act.put, List.setIfInBounds_toArray, List.set_cons_zero, List.set_cons_succ]
            refine wpAnyH_takeL (i := 9) (v := ?g2qv9) rfl (by kernel_rfl) (by kernel_rfl) (by kernel_rfl) (fun _ _ _ h => h) (Or.inl ⟨by rfl, ?g2qy9⟩) (by assumption) ?g2qr9
            case g2qy9 => first | (intro w hSw; (try dsimp only at hSw); go_simp; done) | (intro w hSw; (try dsimp only at hSw); go_simp; with_reducible rfl)
            case' g2qr9 => try simp only [Act.put, List.setIfInBounds_toArray, List.set_cons_zero, List.set_cons_succ]
            refine wpAnyH_takeL (i := 10) (v := ?g2qv10) rfl (by kernel_rfl) (by kernel_rfl) (by kernel_rfl) (fun _ _ _ h => h) (Or.inl ⟨by rfl, ?g2qy10⟩) (by assumption) ?g2qr10
            case g2qy10 => first | (intro w hSw; (try dsimp only at hSw); go_simp; done) | (intro w hSw; (try dsimp only at hSw); go_simp; with_reducible rfl)
            case' g2qr10 => try simp only [Act.put, List.setIfInBounds_toArray, List.set_cons_zero, List.set_cons_succ]
            refine wpAnyH_takeL (i := 11) (v := ?g2qv11) rfl (by kernel_rfl) (by kernel_rfl) (by kernel_rfl) (fun _ _ _ h => h) (Or.inl ⟨by rfl, ?g2qy11⟩) (by assumption) ?g2qr11
            case g2qy11 => first | (intro w hSw; (try dsimp only at hSw); go_simp; done) | (intro w hSw; (try dsimp only at hSw); go_simp; with_reducible rfl)
            case' g2qr11 => try simp only [Act.put, List.setIfInBounds_toArray, List.set_cons_zero, List.set_cons_succ]
            refine wpAnyH_takeL (i := 12) (v := ?g2qv12) rfl (by kernel_rfl) (by kernel_rfl) (by kernel_rfl) (fun _ _ _ h => h) (Or.inl ⟨by rfl, ?g2qy12⟩) (by assumption) ?g2qr12
            case g2qy12 => first | (intro w hSw; (try dsimp only at hSw); go_simp; done) | (intro w hSw; (try dsimp only at hSw); go_simp; with_reducible rfl)
            case' g2qr12 => try simp only [Act.put, List.setIfInBounds_toArray, List.set_cons_zero, List.set_cons_succ]
            refine wpAnyH_done (by kernel_rfl) ?_ _
            change wpList _ _ _ _ _ _
            clear s0 s1 s2 s3 sf m1 f1
            go_wp2
            first
              | go_roundw
              | refine ⟨?rel, ?measure⟩
            case rel => exact ⟨k + 1, by omega, by go_num, HST5, HB6, HX6, HSZ6⟩
            case measure => simp [intOf]; omega
          · obtain rfl : k = n1 := by omega
            have hall := HI.out
            rw [mapTo_all _ (by have := HLX.out; have := HN1.out; omega), mapTo_all _ (by have := HN1.out; omega)] at hall
            have HALL := hid hall
            have HSZL := HSZ
            have HBXL := HBX2
            have HXL := HX
            obtain ⟨i0, hi, hz0, hz1, hz2⟩ := info_parts info_symH
            have HII := hid hi
            have HZ0 := hid hz0
            have HZ1 := hid hz1
            have HZ2 := hid hz2
            clear hall hi hz0 hz1 hz2 HI
            obtain ⟨t0, t1, t2, t3, tf⟩ := HBB.out.ext HX.out
            obtain ⟨V, hV⟩ : ∃ V, V = wr := ⟨_, rfl⟩
            obtain rfl := hV
            go_wp2
            clear s0 s1 s2 s3 sf t0 t1 t2 t3 tf
            go_loopw [9] (fun i wr => ∃ (j : Nat) (A2 : Option Addr) (c2 : Nat), j ≤ ny ∧ i = .int .i64 j ∧ Hid (SecsX wr w1.heap.size hiX 46 5 (.slice AS k cS) (H.map (movH m)) (o.secs.map (movS m))) ∧ Hid (OwnS symR wr W2.heap.size 68 (fun _ => False) (.slice A2 j c2) ((o.syms.take j).map (movY m))) ∧ Hid (Box4 wr aZ (.int .u32 en') (.slice AS k cS) (.slice A2 j c2) (.slice Ar nr cr)) ∧ Hid (Ext w1 wr) ∧ Hid (W2.heap.size ≤ wr.heap.size)) (fun i _ => ny - (intOf i).toNat)
            case atStart => exact ⟨0, none, 0, by omega, rfl, HALL, hid OwnS.nil, HBXL, HXL, HSZL⟩
            case round =>
              obtain ⟨j, A2, c2, hj, rfl, HI2, HO2, HBX3, HX3, HSZ3⟩ := hrel
              obtain ⟨s0, s1, s2, s3, sf⟩ := HBX3.out
              obtain ⟨t0, t1, t2, t3, tf⟩ := HBB.out.ext HX3.out
              by_cases h2 : j < ny
              · obtain ⟨s, hs⟩ : ∃ s, o.syms[j]? = some s := ⟨_, List.getElem?_eq_getElem (by have := HLY.out; omega)⟩
                obtain ⟨b, off, rfl, c0, c1, c2', ha32, hn1, hk1, hk2⟩ := Sl.sym_at (HY.out.ext (HX1.out.trans HX3.out)) hs
                obtain ⟨a, ha⟩ : ∃ a, w32 ((s.addr : Int) + m) = a := ⟨_, rfl⟩
                have e1 : IntKind.u32.wrap ((s.addr : Int) + m) = (a : Int) := by rw [wrap_w32, ha]
                have hal : a < 4294967296 := by rw [← ha]; exact w32_lt _
                have hsn : (o.syms.take (j + 1)).map (movY m) = (o.syms.take j).map (movY m) ++ [{ s with addr := a }] := by rw [take_snoc' hs, List.map_append, ← ha]; rfl
                have HSN := hid hsn
                obtain ⟨M, hM⟩ : ∃ M, (o.syms.take j).map (movY m) = M := ⟨_, rfl⟩
                have hMl : M.length = j := by have := HO2.out.len; rw [hM] at this; exact this.symm
                rw [hM] at HO2 HSN
                have HML := hid hMl
                have HO5 := hid (HO2.out.al (.cells #[.string s.name, .int .u32 a, .int .i64 s.kind] 68))
                have HOK := hid (show symP.ok { s with addr := a } from ⟨hal, hn1, hk1, hk2⟩)
                have hlt5 : aZ < wr.heap.size := HBX3.out.lt
                have hbw := World.block_lt_of_cell? _ _ t0
                have HROW := hid (HO2.out.block)
                clear hs ha hal hsn hM hMl ha32 hn1 hk1 hk2
                go_wp2_with (first
                  | (at_builtin; refine wpList_app1l rfl (.tmp 65) (.tmp 67) 24 rfl W2.heap.size 68 i0 _ 3 32 Try.underlying24 HII.out HZ0.out HZ1.out HZ2.out rfl symR rfl (.slice A2 j c2) M rfl HO5.out (wr.heap.size + 1) (by simp) { s with addr := a } rfl ⟨rfl, HOK.out⟩ (by have := HML.out; omega) (by have := HML.out; omega) (by have := HSZ3.out; simp; omega) ?_; intro A5 c5 w7 hown7 hg7 hl7; rw [HML.out] at hown7 hl7; rw [HML.out]; have HO7 := hid hown7; have HG7 := hid hg7; have HL7 := hid hl7; obtain ⟨p2, pf, hst7⟩ := reb_after (A5 := A5) (c5 := c5) (j := j) HBX3.out HI2.out HX3.out HROW.out HSZ3.out HAZL.out HFREE7.out HHF.out HGE.out HO7.out HG7.out HL7.out; have HST7 := hid hst7; clear hown7 hg7 hl7 hst7)
                  | fail)
                first
                  | go_roundw
                  | refine ⟨?rel, ?measure⟩
                case rel => exact ⟨j + 1, A5, c5, by omega, by go_num, hid HST7.out.1, hid (by rw [HSN.out]; exact HST7.out.2.1), hid HST7.out.2.2.1, hid HST7.out.2.2.2.1, hid HST7.out.2.2.2.2⟩
                case measure => simp [intOf]; omega
              · obtain rfl : j = ny := by omega
                have hO3 := HO2.out
                rw [List.take_of_length_le (by have := HLY.out; omega)] at hO3
                have HO3 := hid hO3
                have HSF := hid (HI2.out.sl (S := All) (fun _ _ => trivial))
                have HYF := hid hO3.sl
                have HRF := hid (HR.out.ext (HX1.out.trans HX3.out))
                obtain ⟨z, hz⟩ : ∃ z, obCheck (moveOb o m) = z := ⟨_, rfl⟩
                have hck := check7_any wr (moveOb o m) AS A2 Ar k cS j c2 nr cr HSF.out HYF.out HRF.out
                have hme : (moveOb o m).entry = en' := HEN.out
                rw [hz, hme] at hck
                have HCK2 := hid hck
                have HZ := hid hz
                have HME := hid hme
                have hazb : w.heap.size + 1 < aZ := by
                  have h1 := HE0.out.size
                  have h2 := HX1.out.size
                  have h3 := HR0.out.lt
                  have h4 := HGE.out
                  omega
                have HAZB := hid hazb
                clear hO3 hck hz hme hazb
                go_wp2_with fail
                clear s0 s1 s2 s3 sf t0 t1 t2 t3 tf
                refine (HCK2.out).mono ?_
                rintro e w5 ⟨rfl, hx5⟩
                have HX5 := hid (HE0.out.trans (HX1.out.trans (HX3.out.trans hx5)))
                have HXX := hid hx5
                obtain ⟨s0, s1, s2, s3, sf⟩ := HBX3.out.ext hx5
                obtain ⟨r0, r1, r2, r3, rf⟩ := HR0.out.ext (HX1.out.trans (HX3.out.trans hx5))
                have hne1 : w.heap.size + 1 ≠ aZ := by have := HAZB.out; omega
                have hne2 : aZ ≠ w.heap.size + 1 := by have := HAZB.out; omega
                clear hx5
                by_cases h3 : z = 0
                case neg =>
                  have n1 : ((z : Int) != 0) = true := by simpa using h3
                  have H3 := hid h3
                  clear h3
                  go_wp2
                  refine bodyPost_ret (v := .tuple #[.agg #[.int .u32 0, .slice none 0 0, .slice none 0 0, .slice none 0 0], .int .i64 z]) (by simp [results, Try.results26, go_sem, World.cell?_setCell_same, World.cell?_setCell_other, r0, r1, r2, r3]) rfl ?_
                  rw [rebaseR_bad2 HQ.out (by rw [HZ.out]; exact H3.out), HZ.out]
                  exact obr_zero ((((HX5.out.setCell (by simp) _).setCell (by simp) _).setCell (by simp) _).setCell (by simp) _) rfl
                subst h3
                go_wp2
                have l1 : (moveOb o m).secs.length = k := by show (List.map _ _).length = _; rw [List.length_map]; exact HN1.out
                have l2 : (moveOb o m).syms.length = j := by show (List.map _ _).length = _; rw [List.length_map]; exact HLY.out.symm
                have l3 : (moveOb o m).rels.length = nr := HLR.out.symm
                refine bodyPost_ret (v := .tuple #[.agg #[.int .u32 en', .slice AS k cS, .slice A2 j c2, .slice Ar nr cr], .int .i64 0]) (by simp [results, Try.results26, go_sem, World.cell?_setCell_same, World.cell?_setCell_other, r0, r1, r2, r3]) rfl ?_
                rw [rebaseR_ok HQ.out HZ.out]
                refine ⟨?_, AS, A2, Ar, cS, c2, cr, by rw [HME.out, l1, l2, l3]; rfl, ?_, ?_, ?_⟩
                · exact (((HX5.out.setCell (by simp) _).setCell (by simp) _).setCell (by simp) _).setCell (by simp) _
                · rw [l1]
                  have hf : Free (.slice AS k cS) (H.map (movH m)) (w.heap.size + 1) := free_high HI2.out (.inr (by
                    have h3 := HR0.out.lt
                    have h2 := HX1.out.size
                    omega))
                  exact (SecsX.farA (SecsX.farA (SecsX.farA (SecsX.farA (HI2.out.ext HXX.out) hf) hf) hf) hf).sl (S := All) (fun _ _ => trivial)
                · rw [l2]
                  have hfar : (Value.slice A2 j c2).ownBlock ≠ some (w.heap.size + 1) := fun e => by
                    have h1 := (HO3.out.block _ e).1
                    have h3 := HR0.out.lt
                    have h2 := HX1.out.size
                    have h4 := HX2.out.size
                    omega
                  exact ((((((HO3.out.ext HXX.out).set_far hfar (fun _ h => h.elim)).set_far hfar (fun _ h => h.elim)).set_far hfar (fun _ h => h.elim)).set_far hfar (fun _ h => h.elim)).sl)
                · rw [l3]
                  exact HRW.out.ext ((((HX5.out.setCell (by simp) _).setCell (by simp) _).setCell (by simp) _).setCell (by simp) _)
  case' g1qb10x9 =>
    go_simp
    obtain ⟨wL, aZ, hA1, hsz, hEg1q1, hge, hob⟩ := extAllocO HXg1q_0.out
    refine Eq.mpr (congrArg (K _) hA1) ?_
    first | rw [hsz] | (have hq : w1.heap.size = aZ := hsz; rw [hq]; clear hq) | skip
    have HZB := hid (show ZOb w1.heap.size aZ wL from ⟨hob, hge⟩)
    try have HAL := hid (show hiX ≤ aZ from Nat.le_trans HHI.out (Nat.le_of_eq hsz))
    clear hA1 hsz hge hob
    have HXg1q_1 := hid (HXg1q_0.out.trans hEg1q1)
    clear hEg1q1
    refine hK.out _ _ (extc3 HCB.out HXg1q_1.out) (fun hSg1q1 => ?_)
    clear hK K
    try simp only [Act.put, List.setIfInBounds_toArray, List.set_cons_zero, List.set_cons_succ]
    refine wpAnyH_ready (rs := [6]) (by kernel_rfl) (by simp) ?_
    refine (AllReadyH.consL rfl (fun K hK => ?g1qb6x13) AllReadyH.nil)
    case' g1qb6x13 =>
      go_simp
      go_at_call 42
      refine (HCP.out _ HXg1q_1.out).mono ?_
      rintro e wL ⟨hEg1q2, AS, cS, H, rfl, hsx⟩
      obtain ⟨hiX, hhX⟩ : ∃ hiX, wL.heap.size = hiX := ⟨_, rfl⟩
      rw [hhX] at hsx
      have HSX := hid hsx
      have HHI := hid (show ZGe hiX wL from Nat.le_of_eq hhX.symm)
      have HBX := hid HXg1q_1.out.size
      try have HAS := hid HZB.out.bx.lt
      clear hsx hhX
      have HXg1q_2 := hid (HXg1q_1.out.trans hEg1q2)
      have HZB := hid (HZB.out.ext hEg1q2)
      clear hEg1q2
      refine hK.out _ _ (extc3 HCB.out HXg1q_2.out) (fun hSg1q2 => ?_)
      clear hK K
      try simp only [Act.put, List.setIfInBounds_toArray, List.set_cons_zero, List.set_cons_succ]
      refine wpAnyH_takeL (i := 9) (v := ?g1qv9x14) rfl (by kernel_rfl) (by kernel_rfl) (by kernel_rfl) (fun _ _ _ h => h) (Or.inl ⟨by rfl, ?g1qy9x14⟩) (by assumption) ?g1qr9x14
      case g1qy9x14 => first | (intro w hSw; (try dsimp only at hSw); go_simp; done) | (intro w hSw; (try dsimp only at hSw); go_simp; with_reducible rfl)
      case' g1qr9x14 => try simp only [Act.put, List.setIfInBounds_toArray, List.set_cons_zero, List.set_cons_succ]
      refine wpAnyH_ready (rs := [11]) (by kernel_rfl) (by simp) ?_
      refine (AllReadyH.consL rfl (fun K hK => ?g1qb11x15) AllReadyH.nil)
      case' g1qb11x15 =>
        have HXend := HXg1q_2
        have z0 := HZB.out.bx.1
        have z1 := HZB.out.bx.2.1
        have z2 := HZB.out.bx.2.2.1
        have z3 := HZB.out.bx.2.2.2.1
        have zf := HZB.out.bx.2.2.2.2
        go_simp
        refine hK.out _ _ (extc3 HCB.out ((((HXg1q_2.out.setCell HZB.out.ge _).setCell HZB.out.ge _).setCell HZB.out.ge _).setCell HZB.out.ge _)) (fun hSg1q3 => ?_)
        clear hK K
        try simp only [Act.put, List.setIfInBounds_toArray, List.set_cons_zero, List.set_cons_succ]
        refine wpAnyH_done (by kernel_rfl) ?_ _
        have hfree : Free (.slice AS o.secs.length cS) H aZ := free_high HSX.out (by first | exact .inl HAL.out | exact .inr HAS.out)
        have hbig : ∀ b, w1.heap.size ≤ b → True := fun _ _ => trivial
        obtain ⟨W2, hW2⟩ : ∃ W2, (((wL.setCell ⟨aZ, 0, none⟩ (.int .u32 en')).setCell ⟨aZ, 1, none⟩ (.slice AS o.secs.length cS)).setCell ⟨aZ, 2, none⟩ (.slice none 0 0)).setCell ⟨aZ, 3, none⟩ (.slice Ar nr cr) = W2 := ⟨_, rfl⟩
        have hbx := ((((HZB.out.bx).put0 (.int .u32 en')).put1 (.slice AS o.secs.length cS)).put2 (.slice none 0 0)).put3 (.slice Ar nr cr)
        have hsx2 := SecsX.farA (p := ⟨aZ, 3, none⟩) (u := .slice Ar nr cr) (SecsX.farA (p := ⟨aZ, 2, none⟩) (u := .slice none 0 0) (SecsX.farA (p := ⟨aZ, 1, none⟩) (u := .slice AS o.secs.length cS) (SecsX.farA (p := ⟨aZ, 0, none⟩) (u := .int .u32 en') HSX.out hfree) hfree) hfree) hfree
        have hEx : Ext w1 W2 := by rw [← hW2]; exact ((((HXend.out.setCell HZB.out.ge _).setCell HZB.out.ge _).setCell HZB.out.ge _).setCell HZB.out.ge _)
        rw [hW2] at hbx hsx2
        rw [hW2]
        have hhi : hiX ≤ W2.heap.size := by rw [← hW2]; simpa using (show hiX ≤ wL.heap.size from HHI.out)
        have HHF := hid hhi
        have HOB := hid hbx
        have HSX2 := hid (hsx2.lower HBX.out)
        have HX2 := hid hEx
        have HGE := hid HZB.out.ge
        have HFREE := hid hfree
        have hazl := hbx.lt
        have HAZL := hid hazl
        have hcS := hsx2.own.sl.cap
        have HLX := hid hsx2.len
        clear hW2 hsx2 hEx hfree hbig hhi HSX hazl
        obtain ⟨s0, s1, s2, s3, sf⟩ := hbx
        obtain ⟨t0, t1, t2, t3, tf⟩ := HBB.out.ext HX2.out
        go_wp2
        clear s0 s1 s2 s3 sf t0 t1 t2 t3 tf
        obtain ⟨n1, hn1⟩ : ∃ n1, o.secs.length = n1 := ⟨_, rfl⟩
        rw [hn1] at HOB HSX2 HFREE hcS ⊢
        have HFREE7 : Hid (Free (.slice AS n1 cS) (H.map (movH m)) aZ) := hid (free_map HFREE.out)
        have HN1 := hid hn1
        clear hn1
        go_loopw [8] (fun i wr => ∃ k : Nat, k ≤ n1 ∧ i = .int .i64 k ∧ Hid (SecsX wr w1.heap.size hiX 46 5 (.slice AS n1 cS) (mapTo (movH m) k H) (mapTo (movS m) k o.secs)) ∧ Hid (Box4 wr aZ (.int .u32 en') (.slice AS n1 cS) (.slice none 0 0) (.slice Ar nr cr)) ∧ Hid (Ext w1 wr) ∧ Hid (W2.heap.size ≤ wr.heap.size)) (fun i _ => n1 - (intOf i).toNat)
        case atStart => exact ⟨0, by omega, rfl, hid (by rw [mapTo_zero, mapTo_zero]; exact HSX2.out), HOB, HX2, hid (Nat.le_refl _)⟩
        case round =>
          obtain ⟨k, hk, rfl, HI, HBX2, HX, HSZ⟩ := hrel
          obtain ⟨s0, s1, s2, s3, sf⟩ := HBX2.out
          by_cases h1 : k < n1
          · obtain ⟨s, hs⟩ : ∃ s, o.secs[k]? = some s := ⟨_, List.getElem?_eq_getElem (by have := HN1.out; omega)⟩
            obtain ⟨h, hh⟩ : ∃ h, H[k]? = some h := ⟨_, List.getElem?_eq_getElem (by have := HN1.out; have := HLX.out; omega)⟩
            have hh2 := mapTo_at (f := movH m) hh
            have hs2 := mapTo_at (f := movS m) hs
            obtain ⟨g, rfl, hgb⟩ := HI.out.own.at0 (by omega)
            have had := (HI.out.of k h s hh2 hs2).2.1
            obtain ⟨m1, f1⟩ := hdrP.cell HI.out.own hh2 (i := 1) rfl
            rw [show k * hdrR.size + 1 = k * 5 + 1 from rfl] at m1 f1
            obtain ⟨a, ha⟩ : ∃ a, w32 ((h.addr : Int) + m) = a := ⟨_, rfl⟩
            have e1 : IntKind.u32.wrap ((h.addr : Int) + m) = (a : Int) := by rw [wrap_w32, ha]
            have hal : a < 4294967296 := by rw [← ha]; exact w32_lt _
            have hstep := SecsX.addr HI.out hh2 hs2 a hal
            have eH : (mapTo (movH m) k H).set k { h with addr := a } = mapTo (movH m) (k + 1) H := by rw [← mapTo_step hh, movH, ha]
            have eS : (mapTo (movS m) k o.secs).set k { s with addr := a } = mapTo (movS m) (k + 1) o.secs := by rw [← mapTo_step hs, movS, ← had, ha]
            rw [eH, eS] at hstep
            have hga : g ≠ aZ := fun e => HFREE.out.1 (by rw [e]; rfl)
            have HSTEP := hid hstep
            have HB5 := hid (HBX2.out.far (p := ⟨g, k * 5 + 1, none⟩) (u := .int .u32 a) hga)
            have HX5 := hid (HX.out.setCell (p := ⟨g, k * 5 + 1, none⟩) hgb.1 (.int .u32 a))
            have HSZ5 : Hid (W2.heap.size ≤ (wr.setCell ⟨g, k * 5 + 1, none⟩ (.int .u32 a)).heap.size) := hid (by simpa using HSZ.out)
            have i1 : (0 : Int) ≤ (k : Int) := by omega
            have i2 : (k : Int) < (n1 : Int) := by omega
            obtain ⟨W5, hW5⟩ : ∃ W5, wr.drew.setCell ⟨g, k * 5 + 1, none⟩ (.int .u32 a) = W5 := ⟨_, rfl⟩
            have f1d : wr.drew.frozen? ⟨g, k * 5 + 1, none⟩ = false := f1
            have m1d : wr.drew.cell? ⟨g, k * 5 + 1, none⟩ = some (.int .u32 h.addr) := m1
            have HST5 : Hid (SecsX W5 w1.heap.size hiX 46 5 (.slice (some ⟨g, 0, none⟩) n1 cS) (mapTo (movH m) (k + 1) H) (mapTo (movS m) (k + 1) o.secs)) := hid (by
              have := SecsX.addr (HI.out.ext (Ext.refl wr).drew) hh2 hs2 a hal
              rw [eH, eS, hW5] at this
              exact this)
            have HB6 : Hid (Box4 W5 aZ (.int .u32 en') (.slice (some ⟨g, 0, none⟩) n1 cS) (.slice none 0 0) (.slice Ar nr cr)) := hid (by rw [← hW5]; exact (HBX2.out.ext (Ext.refl wr).drew).far hga)
            have HX6 : Hid (Ext w1 W5) := hid (by rw [← hW5]; exact HX.out.drew.setCell hgb.1 _)
            have HSZ6 : Hid (W2.heap.size ≤ W5.heap.size) := hid (by rw [← hW5]; simpa using HSZ.out)
            clear hs hh hh2 hs2 had ha hal hstep eH eS hgb HSTEP HB5 HX5 HSZ5 hga
            go_wp2_with fail
            refine wp_region_split 13 (by kernel_rfl) rfl rfl (by kernel_rfl) (fun w' => w'.cell? ⟨aZ, 1, none⟩ = some (.slice (some ⟨g, 0, none⟩) n1 cS) ∧ w'.cell? ⟨g, k * 5 + 1, none⟩ = some (.int .u32 h.addr)) ⟨s1, m1⟩ (fun hSg3q0 => ?_)
            refine wpAnyH_takeL (i := 0) (v := ?g3qv0) rfl (by kernel_rfl) (by kernel_rfl) (by kernel_rfl) (fun _ _ _ h => h) (Or.inl ⟨by rfl, ?g3qy0⟩) (by assumption) ?g3qr0
            case g3qy0 => first | (intro w hSw; (try dsimp only at hSw); go_simp; done) | (intro w hSw; (try dsimp only at hSw); go_simp; with_reducible rfl)
            case' g3qr0 => try simp only [Act.put, List.setIfInBounds_toArray, List.set_cons_zero, List.set_cons_succ]
            refine wpAnyH_takeL (i := 1) (v := ?g3qv1) rfl (by kernel_rfl) (by kernel_rfl) (by kernel_rfl) (fun _ _ _ h => h) (Or.inl ⟨by rfl, ?g3qy1⟩) (by assumption) ?g3qr1
            case g3qy1 => first | (intro w hSw; (try dsimp only at hSw); go_simp; done) | (intro w hSw; (try dsimp only at hSw); go_simp; with_reducible rfl)
            case' g3qr1 => try simp only [Act.put, List.setIfInBounds_toArray, List.set_cons_zero, List.set_cons_succ]
            refine wpAnyH_takeL (i := 2) (v := ?g3qv2) rfl (by kernel_rfl) (by kernel_rfl) (by kernel_rfl) (fun _ _ _ h => h) (Or.inl ⟨by rfl, ?g3qy2⟩) (by assumption) ?g3qr2
            case g3qy2 => first | (intro w hSw; (try dsimp only at hSw); go_simp; done) | (intro w hSw; (try dsimp only at hSw); go_simp; with_reducible rfl)
            case' g3qr2 => try simp only [Act.put, List.setIfInBounds_toArray, List.set_cons_zero, List.set_cons_succ]
            refine wpAnyH_takeL (i := 3) (v := ?g3qv3) rfl (by kernel_rfl) (by kernel_rfl) (by kernel_rfl) (fun _ _ _ h => h) (Or.inl ⟨by rfl, ?g3qy3⟩) (by assumption) ?g3qr3
            case g3qy3 => first | (intro w hSw; (try dsimp only at hSw); go_simp; done) | (intro w hSw; (try dsimp only at hSw); go_simp; with_reducible rfl)
            case' g3qr3 => try simp only [Act.put, List.setIfInBounds_toArray, List.set_cons_zero, List.set_cons_succ]
            refine wpAnyH_takeL (i := 4) (v := ?g3qv4) rfl (by kernel_rfl) (by kernel_rfl) (by kernel_rfl) (fun _ _ _ h => h) (Or.inl ⟨by rfl, ?g3qy4⟩) (by assumption) ?g3qr4
            case g3qy4 => first | (intro w hSw; (try dsimp only at hSw); go_simp; done) | (intro w hSw; (try dsimp only at hSw); go_simp; with_reducible rfl)
            case' g3qr4 => try simp only [Act.put, List.setIfInBounds_toArray, List.set_cons_zero, List.set_cons_succ]
            refine wpAnyH_takeL (i := 5) (v := ?g3qv5) rfl (by kernel_rfl) (by kernel_rfl) (by kernel_rfl) (fun _ _ _ h => h) (Or.inl ⟨by rfl, ?g3qy5⟩) (by assumption) ?g3qr5
            case g3qy5 => first | (intro w hSw; (try dsimp only at hSw); go_simp; done) | (intro w hSw; (try dsimp only at hSw); go_simp; with_reducible rfl)
            case' g3qr5 => try simp only [Act.put, List.setIfInBounds_toArray, List.set_cons_zero, List.set_cons_succ]
            refine wpAnyH_takeL (i := 6) (v := ?g3qv6) rfl (by kernel_rfl) (by kernel_rfl) (by kernel_rfl) (fun _ _ _ h => h) (Or.inl ⟨by rfl, ?g3qy6⟩) (by assumption) ?g3qr6
            case g3qy6 => first | (intro w hSw; (try dsimp only at hSw); go_simp; done) | (intro w hSw; (try dsimp only at hSw); go_simp; with_reducible rfl)
            case' g3qr6 => try simp only [Act.put, List.setIfInBounds_toArray, List.set_cons_zero, List.set_cons_succ]
            refine wpAnyH_takeL (i := 7) (v := ?g3qv7) rfl (by kernel_rfl) (by kernel_rfl) (by kernel_rfl) (fun _ _ _ h => h) (Or.inl ⟨by rfl, ?g3qy7⟩) (by assumption) ?g3qr7
            case g3qy7 => first | (intro w hSw; (try dsimp only at hSw); go_simp; done) | (intro w hSw; (try dsimp only at hSw); go_simp; with_reducible rfl)
            case' g3qr7 => try simp only [Act.put, List.setIfInBounds_toArray, List.set_cons_zero, List.set_cons_succ]
            refine wpAnyH_takeL (i := 8) (v := ?g3qv8) rfl (by kernel_rfl) (by kernel_rfl) (by kernel_rfl) (fun _ _ _ h => h) (Or.inl ⟨by rfl, ?g3qy8⟩) (by assumption) ?g3qr8
            case g3qy8 => first | (intro w hSw; (try dsimp only at hSw); go_simp; done) | (intro w hSw; (try dsimp only at hSw); go_simp; with_reducible rfl)
            case' g3qr8 => try simp only [Act.put, List.setIfInBounds_toArray, List.set_cons_zero, List.set_cons_succ]
            refine wpAnyH_takeL (i := 9) (v := ?g3qv9) rfl (by kernel_rfl) (by kernel_rfl) (by kernel_rfl) (fun _ _ _ h => h) (Or.inl ⟨by rfl, ?g3qy9⟩) (by assumption) ?g3qr9
            case g3qy9 => first | (intro w hSw; (try dsimp only at hSw); go_simp; done) | (intro w hSw; (try dsimp only at hSw); go_simp; with_reducible rfl)
            case' g3qr9 => try simp only [Act.put, List.setIfInBounds_toArray, List.set_cons_zero, List.set_cons_succ]
            refine wpAnyH_takeL (i := 10) (v := ?g3qv10) rfl (by kernel_rfl) (by kernel_rfl) (by kernel_rfl) (fun _ _ _ h => h) (Or.inl ⟨by rfl, ?g3qy10⟩) (by assumption) ?g3qr10
            case g3qy10 => first | (intro w hSw; (try dsimp only at hSw); go_simp; done) | (intro w hSw; (try dsimp only at hSw); go_simp; with_reducible rfl)
            case' g3qr10 => try simp only [Act.put, List.setIfInBounds_toArray, List.set_cons_zero, List.set_cons_succ]
            refine wpAnyH_takeL (i := 11) (v := ?g3qv11) rfl (by kernel_rfl) (by kernel_rfl) (by kernel_rfl) (fun _ _ _ h => h) (Or.inl ⟨by rfl, ?g3qy11⟩) (by assumption) ?g3qr11
            case g3qy11 => first | (intro w hSw; (try dsimp only at hSw); go_simp; done) | (intro w hSw; (try dsimp only at hSw); go_simp; with_reducible rfl)
            case' g3qr11 => try simp only [Act.put, List.setIfInBounds_toArray, List.set_cons_zero, List.set_cons_succ]
            refine wpAnyH_takeL (i := 12) (v := ?g3qv12) rfl (by kernel_rfl) (by kernel_rfl) (by kernel_rfl) (fun _ _ _ h => h) (Or.inl ⟨by rfl, ?g3qy12⟩) (by assumption) ?g3qr12
            case g3qy12 => first | (intro w hSw; (try dsimp only at hSw); go_simp; done) | (intro w hSw; (try dsimp only at hSw); go_simp; with_reducible rfl)
            case' g3qr12 => try simp only [Act.put, List.setIfInBounds_toArray, List.set_cons_zero, List.set_cons_succ]
            refine wpAnyH_done (by kernel_rfl) ?_ _
            change wpList _ _ _ _ _ _
            clear s0 s1 s2 s3 sf m1 f1
            go_wp2
            first
              | go_roundw
              | refine ⟨?rel, ?measure⟩
            case rel => exact ⟨k + 1, by omega, by go_num, HST5, HB6, HX6, HSZ6⟩
            case measure => simp [intOf]; omega
          · obtain rfl : k = n1 := by omega
            have hall := HI.out
            rw [mapTo_all _ (by have := HLX.out; have := HN1.out; omega), mapTo_all _ (by have := HN1.out; omega)] at hall
            have HALL := hid hall
            have HSZL := HSZ
            have HBXL := HBX2
            have HXL := HX
            obtain ⟨i0, hi, hz0, hz1, hz2⟩ := info_parts info_symH
            have HII := hid hi
            have HZ0 := hid hz0
            have HZ1 := hid hz1
            have HZ2 := hid hz2
            clear hall hi hz0 hz1 hz2 HI
            obtain ⟨t0, t1, t2, t3, tf⟩ := HBB.out.ext HX.out
            obtain ⟨V, hV⟩ : ∃ V, V = wr := ⟨_, rfl⟩
            obtain rfl := hV
            go_wp2
            clear s0 s1 s2 s3 sf t0 t1 t2 t3 tf
            go_loopw [9] (fun i wr => ∃ (j : Nat) (A2 : Option Addr) (c2 : Nat), j ≤ ny ∧ i = .int .i64 j ∧ Hid (SecsX wr w1.heap.size hiX 46 5 (.slice AS k cS) (H.map (movH m)) (o.secs.map (movS m))) ∧ Hid (OwnS symR wr W2.heap.size 68 (fun _ => False) (.slice A2 j c2) ((o.syms.take j).map (movY m))) ∧ Hid (Box4 wr aZ (.int .u32 en') (.slice AS k cS) (.slice A2 j c2) (.slice Ar nr cr)) ∧ Hid (Ext w1 wr) ∧ Hid (W2.heap.size ≤ wr.heap.size)) (fun i _ => ny - (intOf i).toNat)
            case atStart => exact ⟨0, none, 0, by omega, rfl, HALL, hid OwnS.nil, HBXL, HXL, HSZL⟩
            case round =>
              obtain ⟨j, A2, c2, hj, rfl, HI2, HO2, HBX3, HX3, HSZ3⟩ := hrel
              obtain ⟨s0, s1, s2, s3, sf⟩ := HBX3.out
              obtain ⟨t0, t1, t2, t3, tf⟩ := HBB.out.ext HX3.out
              by_cases h2 : j < ny
              · obtain ⟨s, hs⟩ : ∃ s, o.syms[j]? = some s := ⟨_, List.getElem?_eq_getElem (by have := HLY.out; omega)⟩
                obtain ⟨b, off, rfl, c0, c1, c2', ha32, hn1, hk1, hk2⟩ := Sl.sym_at (HY.out.ext (HX1.out.trans HX3.out)) hs
                obtain ⟨a, ha⟩ : ∃ a, w32 ((s.addr : Int) + m) = a := ⟨_, rfl⟩
                have e1 : IntKind.u32.wrap ((s.addr : Int) + m) = (a : Int) := by rw [wrap_w32, ha]
                have hal : a < 4294967296 := by rw [← ha]; exact w32_lt _
                have hsn : (o.syms.take (j + 1)).map (movY m) = (o.syms.take j).map (movY m) ++ [{ s with addr := a }] := by rw [take_snoc' hs, List.map_append, ← ha]; rfl
                have HSN := hid hsn
                obtain ⟨M, hM⟩ : ∃ M, (o.syms.take j).map (movY m) = M := ⟨_, rfl⟩
                have hMl : M.length = j := by have := HO2.out.len; rw [hM] at this; exact this.symm
                rw [hM] at HO2 HSN
                have HML := hid hMl
                have HO5 := hid (HO2.out.al (.cells #[.string s.name, .int .u32 a, .int .i64 s.kind] 68))
                have HOK := hid (show symP.ok { s with addr := a } from ⟨hal, hn1, hk1, hk2⟩)
                have hlt5 : aZ < wr.heap.size := HBX3.out.lt
                have hbw := World.block_lt_of_cell? _ _ t0
                have HROW := hid (HO2.out.block)
                clear hs ha hal hsn hM hMl ha32 hn1 hk1 hk2
                go_wp2_with (first
                  | (at_builtin; refine wpList_app1l rfl (.tmp 65) (.tmp 67) 24 rfl W2.heap.size 68 i0 _ 3 32 Try.underlying24 HII.out HZ0.out HZ1.out HZ2.out rfl symR rfl (.slice A2 j c2) M rfl HO5.out (wr.heap.size + 1) (by simp) { s with addr := a } rfl ⟨rfl, HOK.out⟩ (by have := HML.out; omega) (by have := HML.out; omega) (by have := HSZ3.out; simp; omega) ?_; intro A5 c5 w7 hown7 hg7 hl7; rw [HML.out] at hown7 hl7; rw [HML.out]; have HO7 := hid hown7; have HG7 := hid hg7; have HL7 := hid hl7; obtain ⟨p2, pf, hst7⟩ := reb_after (A5 := A5) (c5 := c5) (j := j) HBX3.out HI2.out HX3.out HROW.out HSZ3.out HAZL.out HFREE7.out HHF.out HGE.out HO7.out HG7.out HL7.out; have HST7 := hid hst7; clear hown7 hg7 hl7 hst7)
                  | fail)
                first
                  | go_roundw
                  | refine ⟨?rel, ?measure⟩
                case rel => exact ⟨j + 1, A5, c5, by omega, by go_num, hid HST7.out.1, hid (by rw [HSN.out]; exact HST7.out.2.1), hid HST7.out.2.2.1, hid HST7.out.2.2.2.1, hid HST7.out.2.2.2.2⟩
                case measure => simp [intOf]; omega
              · obtain rfl : j = ny := by omega
                have hO3 := HO2.out
                rw [List.take_of_length_le (by have := HLY.out; omega)] at hO3
                have HO3 := hid hO3
                have HSF := hid (HI2.out.sl (S := All) (fun _ _ => trivial))
                have HYF := hid hO3.sl
                have HRF := hid (HR.out.ext (HX1.out.trans HX3.out))
                obtain ⟨z, hz⟩ : ∃ z, obCheck (moveOb o m) = z := ⟨_, rfl⟩
                have hck := check7_any wr (moveOb o m) AS A2 Ar k cS j c2 nr cr HSF.out HYF.out HRF.out
                have hme : (moveOb o m).entry = en' := HEN.out
                rw [hz, hme] at hck
                have HCK2 := hid hck
                have HZ := hid hz
                have HME := hid hme
                have hazb : w.heap.size + 1 < aZ := by
                  have h1 := HE0.out.size
                  have h2 := HX1.out.size
                  have h3 := HR0.out.lt
                  have h4 := HGE.out
                  omega
                have HAZB := hid hazb
                clear hO3 hck hz hme hazb
                go_wp2_with fail
                clear s0 s1 s2 s3 sf t0 t1 t2 t3 tf
                refine (HCK2.out).mono ?_
                rintro e w5 ⟨rfl, hx5⟩
                have HX5 := hid (HE0.out.trans (HX1.out.trans (HX3.out.trans hx5)))
                have HXX := hid hx5
                obtain ⟨s0, s1, s2, s3, sf⟩ := HBX3.out.ext hx5
                obtain ⟨r0, r1, r2, r3, rf⟩ := HR0.out.ext (HX1.out.trans (HX3.out.trans hx5))
                have hne1 : w.heap.size + 1 ≠ aZ := by have := HAZB.out; omega
                have hne2 : aZ ≠ w.heap.size + 1 := by have := HAZB.out; omega
                clear hx5
                by_cases h3 : z = 0
                case neg =>
                  have n1 : ((z : Int) != 0) = true := by simpa using h3
                  have H3 := hid h3
                  clear h3
                  go_wp2
                  refine bodyPost_ret (v := .tuple #[.agg #[.int .u32 0, .slice none 0 0, .slice none 0 0, .slice none 0 0], .int .i64 z]) (by simp [results, Try.results26, go_sem, World.cell?_setCell_same, World.cell?_setCell_other, r0, r1, r2, r3]) rfl ?_
                  rw [rebaseR_bad2 HQ.out (by rw [HZ.out]; exact H3.out), HZ.out]
                  exact obr_zero ((((HX5.out.setCell (by simp) _).setCell (by simp) _).setCell (by simp) _).setCell (by simp) _) rfl
                subst h3
                go_wp2
                have l1 : (moveOb o m).secs.length = k := by show (List.map _ _).length = _; rw [List.length_map]; exact HN1.out
                have l2 : (moveOb o m).syms.length = j := by show (List.map _ _).length = _; rw [List.length_map]; exact HLY.out.symm
                have l3 : (moveOb o m).rels.length = nr := HLR.out.symm
                refine bodyPost_ret (v := .tuple #[.agg #[.int .u32 en', .slice AS k cS, .slice A2 j c2, .slice Ar nr cr], .int .i64 0]) (by simp [results, Try.results26, go_sem, World.cell?_setCell_same, World.cell?_setCell_other, r0, r1, r2, r3]) rfl ?_
                rw [rebaseR_ok HQ.out HZ.out]
                refine ⟨?_, AS, A2, Ar, cS, c2, cr, by rw [HME.out, l1, l2, l3]; rfl, ?_, ?_, ?_⟩
                · exact (((HX5.out.setCell (by simp) _).setCell (by simp) _).setCell (by simp) _).setCell (by simp) _
                · rw [l1]
                  have hf : Free (.slice AS k cS) (H.map (movH m)) (w.heap.size + 1) := free_high HI2.out (.inr (by
                    have h3 := HR0.out.lt
                    have h2 := HX1.out.size
                    omega))
                  exact (SecsX.farA (SecsX.farA (SecsX.farA (SecsX.farA (HI2.out.ext HXX.out) hf) hf) hf) hf).sl (S := All) (fun _ _ => trivial)
                · rw [l2]
                  have hfar : (Value.slice A2 j c2).ownBlock ≠ some (w.heap.size + 1) := fun e => by
                    have h1 := (HO3.out.block _ e).1
                    have h3 := HR0.out.lt
                    have h2 := HX1.out.size
                    have h4 := HX2.out.size
                    omega
                  exact ((((((HO3.out.ext HXX.out).set_far hfar (fun _ h => h.elim)).set_far hfar (fun _ h => h.elim)).set_far hfar (fun _ h => h.elim)).set_far hfar (fun _ h => h.elim)).sl)
                · rw [l3]
                  exact HRW.out.ext ((((HX5.out.setCell (by simp) _).setCell (by simp) _).setCell (by simp) _).setCell (by simp) _)
end Go.Proofs.Ytnlofhbimfcejaa
