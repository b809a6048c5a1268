/- MemoryClone: the walk of the statement. -/
import Derived.Test.YtjfdbfbdkjfgpaaScrA
import Derived.Test.YtjfdbfbdkjfgpaaCloM
import Derived.Test.YtjfdbfbdkjfgpaaSplit
import Derived.Deep.CutRange
namespace Go.Proofs.Ytjfdbfbdkjfgpaa
open Go.RowKit Go.Deco
set_option linter.unusedSimpArgs false
set_option linter.unusedVariables false

/-- The reference's memory in its variable (block g, made behind the world w0), the rest as it was. -/
structure RefVar (w0 wr : World) (g : Nat) (l : List Sec) (LA : Option Addr) (lc : Nat) (CA : Option Addr) (cd : Nat) (cs : List (Nat × Nat)) : Prop where
  ext : Ext w0 wr
  b0 : wr.cell? ⟨g, 0, none⟩ = some (.bool true)
  b1 : wr.cell? ⟨g, 1, none⟩ = some (.slice LA l.length lc)
  b2 : wr.cell? ⟨g, 2, none⟩ = some (.slice CA cs.length cd)
  fz : ∀ j, wr.frozen? ⟨g, j, none⟩ = false
  secs : Sl secR wr (fun b => b < w0.heap.size) (.slice LA l.length lc) l
  cells : Sl cellR wr (fun b => b ≠ g) (.slice CA cs.length cd) cs
theorem RefVar.put {w0 wr w' : World} {g : Nat} {l : List Sec} {LA : Option Addr} {lc : Nat} {CA : Option Addr} {cd : Nat} {cs : List (Nat × Nat)} (h : RefVar w0 wr g l LA lc CA cd cs) (hg : g = w0.heap.size) (he : Ext wr w') {CA' : Option Addr} {cd' : Nat} {cs' : List (Nat × Nat)}
    (hc : Sl cellR w' (fun b => b ≠ g ∨ wr.heap.size ≤ b) (.slice CA' cs'.length cd') cs') :
    RefVar w0 (((w'.setCell ⟨g, 0, none⟩ (.bool true)).setCell ⟨g, 1, none⟩ (.slice LA l.length lc)).setCell ⟨g, 2, none⟩ (.slice CA' cs'.length cd')) g l LA lc CA' cd' cs' := by
  have hglt : g < wr.heap.size := World.block_lt_of_cell? _ _ h.b0
  obtain ⟨ext, b0, b1, b2, fz, secs, cells⟩ := h
  have e0 := he.cell b0
  have e1 := he.cell b1
  have e2 := he.cell b2
  have hfz : ∀ j, w'.frozen? ⟨g, j, none⟩ = false := fun j => (he.frozen (p := ⟨g, j, none⟩) hglt).trans (fz j)
  have hb : ∀ b, b ≠ g → (((w'.setCell ⟨g, 0, none⟩ (.bool true)).setCell ⟨g, 1, none⟩ (.slice LA l.length lc)).setCell ⟨g, 2, none⟩ (.slice CA' cs'.length cd')).heap[b]? = w'.heap[b]? := fun b hb => by
    rw [Below.heap_setCell _ _ _ _ (by simpa using hb), Below.heap_setCell _ _ _ _ (by simpa using hb), Below.heap_setCell _ _ _ _ (by simpa using hb)]
  refine ⟨(((ext.trans he).setCell (Nat.le_of_eq hg.symm) _).setCell (Nat.le_of_eq hg.symm) _).setCell (Nat.le_of_eq hg.symm) _, ?_, ?_, ?_, fun j => by rw [frozen_set, frozen_set, frozen_set]; exact hfz j, ?_, ?_⟩
  · simp [World.cell?_setCell_same, World.cell?_setCell_other, e0]
  · simp [World.cell?_setCell_same, World.cell?_setCell_other, e1]
  · simp [World.cell?_setCell_same, World.cell?_setCell_other, e2]
  · exact (secs.ext he).keep fun b hb' _ => hb b (by have h5 : b < w0.heap.size := hb'; omega)
  · exact (hc.mono (S' := fun b => b ≠ g) (fun b hb _ => by rcases hb with h | h; exact h; omega)).keep fun b hb' _ => hb b hb'

theorem CellsOk.store {l : List Sec} (h0 : secCheck l = 0) {cs : List (Nat × Nat)} {M : Nat → Option Nat} {b : Nat} (h : CellsOk (regsOf l) cs M b) (q : Int) (a x : Nat) :
    CellsOk (regsOf l) (storeCells (regsOf l) cs a q x) (storeMap (regsOf l) M a q x) (b + 4) := by
  have := h.next h0 2 q a x
  rwa [kindCells, kindMap, if_pos rfl, if_pos rfl] at this

theorem MemAt.carry {P : Program} {tk te : TypeId} {w w' : World} {mb bm n mb2 bm2 n2 : Nat} {regs regs2 : List Reg} {M M2 : Nat → Option Nat} (h : MemAt P tk te w mb bm regs M n) (h2 : MemAt P tk te w mb2 bm2 regs2 M2 n2) (hne : bm ≠ bm2)
    (hk : ∀ b, b < w.heap.size → b ≠ bm2 → w'.heap[b]? = w.heap[b]?) : MemAt P tk te w' mb bm regs M n := by
  obtain ⟨A, c, D, c0, c1, s, o, e0⟩ := h
  obtain ⟨_, _, D2, _, _, _, o2, _⟩ := h2
  have hb : ∀ b, IsCells w b → w'.heap[b]? = w.heap[b]? := fun b hb => hk b hb.lt (fun e => by
    subst e
    obtain ⟨cc, e, f, h⟩ := hb
    obtain ⟨es, clock, h', _⟩ := o2
    rw [h] at h'
    cases h')
  have hlt := o.lt
  obtain ⟨es, clock, hm, F, hs, hD⟩ := o
  exact ⟨A, c, D, (World.cell?_of_block (hb _ (isCells_of c0))).trans c0, (World.cell?_of_block (hb _ (isCells_of c1))).trans c1, s.keep fun b _ h => hb b h, ⟨es, clock, (hk bm hlt hne).trans hm, F, hs, hD⟩, e0⟩

set_option maxRecDepth 100000 in
set_option maxHeartbeats 8000000 in
theorem clonelaw_any (w : World) (A : Option Addr) (n c : Nat) (l : List Sec) (hl : Sl secR w All (.slice A n c) l) (B : Option Addr) (m d : Nat) (ops : List Op9) (hops : Sl opR w All (.slice B m d) ops)
    (B2 : Option Addr) (m2 d2 : Nat) (more : List Op9) (hmore : Sl opR w All (.slice B2 m2 d2) more) :
    Calls Try.prog 8 #[.slice A n c, .slice B m d, .slice B2 m2 d2] w (OneBool w true) := by
  have hlm := hops.len
  obtain ⟨hmd, hdm⟩ := hops.cap
  have hlm2 := hmore.len
  obtain ⟨hmd2, hdm2⟩ := hmore.cap
  have HLM := hid hlm; clear hlm
  have HLM2 := hid hlm2; clear hlm2
  have HL := hid hl; clear hl
  have HO := hid hops; clear hops
  have HO2 := hid hmore; clear hmore
  have HE := hid (Ext.refl w)
  go_enter Try.func8, Try.ntmps8
  go_wp2_with fail
  refine (few_any w A n c l (HL.out.ext HE.out)).mono ?_
  rintro e w' ⟨⟨b, rfl⟩, rfl⟩
  cases b
  case' false =>
    go_wp2_with fail
    refine (example_any _).mono ?_
    rintro e w1 ⟨rfl, hx⟩
    have HX := hid (HE.out.trans hx); clear hx
    go_wp2
    go_ret
    exact ⟨rfl, HX.out⟩
  go_wp2_with fail
  refine (fewOps_any w B m d ops HO.out).mono ?_
  rintro e w' ⟨⟨b, rfl, hb⟩, rfl⟩
  cases b
  case' false =>
    clear hb
    go_wp2_with fail
    refine (example_any _).mono ?_
    rintro e wz ⟨rfl, hx⟩
    have HX := hid (HE.out.trans (HE.out.trans hx)); clear hx
    go_wp2
    go_ret
    exact ⟨rfl, HX.out⟩
  have hm40 : m ≤ 40 := hb rfl
  clear hb
  go_wp2_with fail
  refine (fewOps_any w B2 m2 d2 more HO2.out).mono ?_
  rintro e w' ⟨⟨b, rfl, hb⟩, rfl⟩
  cases b
  case' false =>
    clear hb
    go_wp2_with fail
    refine (example_any _).mono ?_
    rintro e wz ⟨rfl, hx⟩
    have HX := hid (HE.out.trans (HE.out.trans hx)); clear hx
    go_wp2
    go_ret
    exact ⟨rfl, HX.out⟩
  have hm240 : m2 ≤ 40 := hb rfl
  clear hb
  go_wp2_with fail
  refine (new_any w A n c l (HL.out.ext HE.out)).mono ?_
  rintro e w1 ⟨hx1, ⟨h0, rfl⟩ | ⟨h0, mb, bm, rfl, hmb, hbm, hm⟩⟩
  · have H1 := hid (HE.out.trans hx1); clear hx1
    have h0' : ((secCheck l : Int) != 0) = true := by simpa using h0
    obtain ⟨er, her⟩ : ∃ er, secCheck l = er := ⟨_, rfl⟩
    rw [her] at h0'
    rw [her]
    clear h0 her
    go_wp2_with fail
    refine (example_any _).mono ?_
    rintro e w2 ⟨rfl, hx⟩
    have HX := hid (H1.out.trans hx); clear hx
    go_wp2
    go_ret
    exact ⟨rfl, HX.out⟩
  have H1 := hid hx1; clear hx1
  have HM := hid hm; clear hm
  have HSC := hid h0; clear h0
  have HM0 : Hid (Mem w1 mb bm (regsOf l) (storeAll (regsOf l) (fun _ => none) (ops.take 0)) (4 * 0)) := hid (by simpa [storeAll] using HM.out)
  go_wp2
  go_loopw [9] (fun i wr => ∃ k : Nat, k ≤ m ∧ i = .int .i64 k ∧ Hid (Ext w wr) ∧ Hid (Mem wr mb bm (regsOf l) (storeAll (regsOf l) (fun _ => none) (ops.take k)) (4 * k))) (fun i _ => m - (intOf i).toNat)
  case atStart => exact ⟨0, by omega, rfl, H1, HM0⟩
  case round =>
    obtain ⟨k, hk, rfl, he, hmk⟩ := hrel
    by_cases h1 : k < m
    · obtain ⟨o, ho⟩ : ∃ o, ops[k]? = some o := ⟨_, List.getElem?_eq_getElem (by have := HLM.out; omega)⟩
      obtain ⟨b, off, rfl, -, s1, s2, s3, hq1, hq2, ha, hx⟩ := Sl_op_at HO.out ho
      have s1 := he.out.cell s1
      have s2 := he.out.cell s2
      have s3 := he.out.cell s3
      have HOK := hid ho; clear ho
      have hk0 : (0 : Int) ≤ (k : Int) := by omega
      have hk1 : (k : Int) < (m : Int) := by omega
      go_wp2_with fail
      refine wp_region_held_drew (S := (fun w' => w'.cell? ⟨b, off + k * 4 + 1, none⟩ = some (.int .i64 o.width) ∧ w'.cell? ⟨b, off + k * 4 + 2, none⟩ = some (.int .u32 o.addr) ∧ w'.cell? ⟨b, off + k * 4 + 3, none⟩ = some (.int .u32 o.num))) (by kernel_rfl) ⟨s1, s2, s3⟩ (fun hSR0 => ?_)
      refine wpAnyH_takeL (i := 0) (v := ?Rv0) rfl (by kernel_rfl) (by kernel_rfl) (by kernel_rfl) (fun _ _ _ h => h) (Or.inl ⟨by rfl, ?Ry0⟩) (by assumption) ?Rr0
      case Ry0 => first | (intro w hSw; (try dsimp only at hSw); go_simp; done) | (intro w hSw; (try dsimp only at hSw); go_simp; with_reducible rfl)
      case' Rr0 => try simp only [Act.put, List.setIfInBounds_toArray, List.set_cons_zero, List.set_cons_succ]
      refine wpAnyH_takeL (i := 1) (v := ?Rv1) rfl (by kernel_rfl) (by kernel_rfl) (by kernel_rfl) (fun _ _ _ h => h) (Or.inl ⟨by rfl, ?Ry1⟩) (by assumption) ?Rr1
      case Ry1 => first | (intro w hSw; (try dsimp only at hSw); go_simp; done) | (intro w hSw; (try dsimp only at hSw); go_simp; with_reducible rfl)
      case' Rr1 => try simp only [Act.put, List.setIfInBounds_toArray, List.set_cons_zero, List.set_cons_succ]
      refine wpAnyH_takeL (i := 2) (v := ?Rv2) rfl (by kernel_rfl) (by kernel_rfl) (by kernel_rfl) (fun _ _ _ h => h) (Or.inl ⟨by rfl, ?Ry2⟩) (by assumption) ?Rr2
      case Ry2 => first | (intro w hSw; (try dsimp only at hSw); go_simp; done) | (intro w hSw; (try dsimp only at hSw); go_simp; with_reducible rfl)
      case' Rr2 => try simp only [Act.put, List.setIfInBounds_toArray, List.set_cons_zero, List.set_cons_succ]
      refine wpAnyH_takeL (i := 3) (v := ?Rv3) rfl (by kernel_rfl) (by kernel_rfl) (by kernel_rfl) (fun _ _ _ h => h) (Or.inl ⟨by rfl, ?Ry3⟩) (by assumption) ?Rr3
      case Ry3 => first | (intro w hSw; (try dsimp only at hSw); go_simp; done) | (intro w hSw; (try dsimp only at hSw); go_simp; with_reducible rfl)
      case' Rr3 => try simp only [Act.put, List.setIfInBounds_toArray, List.set_cons_zero, List.set_cons_succ]
      refine wpAnyH_takeL (i := 4) (v := ?Rv4) rfl (by kernel_rfl) (by kernel_rfl) (by kernel_rfl) (fun _ _ _ h => h) (Or.inl ⟨by rfl, ?Ry4⟩) (by assumption) ?Rr4
      case Ry4 => first | (intro w hSw; (try dsimp only at hSw); go_simp; done) | (intro w hSw; (try dsimp only at hSw); go_simp; with_reducible rfl)
      case' Rr4 => try simp only [Act.put, List.setIfInBounds_toArray, List.set_cons_zero, List.set_cons_succ]
      refine wpAnyH_takeL (i := 5) (v := ?Rv5) rfl (by kernel_rfl) (by kernel_rfl) (by kernel_rfl) (fun _ _ _ h => h) (Or.inl ⟨by rfl, ?Ry5⟩) (by assumption) ?Rr5
      case Ry5 => first | (intro w hSw; (try dsimp only at hSw); go_simp; done) | (intro w hSw; (try dsimp only at hSw); go_simp; with_reducible rfl)
      case' Rr5 => try simp only [Act.put, List.setIfInBounds_toArray, List.set_cons_zero, List.set_cons_succ]
      refine wpAnyH_takeL (i := 6) (v := ?Rv6) rfl (by kernel_rfl) (by kernel_rfl) (by kernel_rfl) (fun _ _ _ h => h) (Or.inl ⟨by rfl, ?Ry6⟩) (by assumption) ?Rr6
      case Ry6 => first | (intro w hSw; (try dsimp only at hSw); go_simp; done) | (intro w hSw; (try dsimp only at hSw); go_simp; with_reducible rfl)
      case' Rr6 => try simp only [Act.put, List.setIfInBounds_toArray, List.set_cons_zero, List.set_cons_succ]
      refine wpAnyH_takeL (i := 7) (v := ?Rv7) rfl (by kernel_rfl) (by kernel_rfl) (by kernel_rfl) (fun _ _ _ h => h) (Or.inl ⟨by rfl, ?Ry7⟩) (by assumption) ?Rr7
      case Ry7 => first | (intro w hSw; (try dsimp only at hSw); go_simp; done) | (intro w hSw; (try dsimp only at hSw); go_simp; with_reducible rfl)
      case' Rr7 => try simp only [Act.put, List.setIfInBounds_toArray, List.set_cons_zero, List.set_cons_succ]
      refine wpAnyH_takeL (i := 8) (v := ?Rv8) rfl (by kernel_rfl) (by kernel_rfl) (by kernel_rfl) (fun _ _ _ h => h) (Or.inl ⟨by rfl, ?Ry8⟩) (by assumption) ?Rr8
      case Ry8 => first | (intro w hSw; (try dsimp only at hSw); go_simp; done) | (intro w hSw; (try dsimp only at hSw); go_simp; with_reducible rfl)
      case' Rr8 => try simp only [Act.put, List.setIfInBounds_toArray, List.set_cons_zero, List.set_cons_succ]
      refine wpAnyH_takeL (i := 9) (v := ?Rv9) rfl (by kernel_rfl) (by kernel_rfl) (by kernel_rfl) (fun _ _ _ h => h) (Or.inl ⟨by rfl, ?Ry9⟩) (by assumption) ?Rr9
      case Ry9 => first | (intro w hSw; (try dsimp only at hSw); go_simp; done) | (intro w hSw; (try dsimp only at hSw); go_simp; with_reducible rfl)
      case' Rr9 => try simp only [Act.put, List.setIfInBounds_toArray, List.set_cons_zero, List.set_cons_succ]
      refine wpAnyH_takeL (i := 10) (v := ?Rv10) rfl (by kernel_rfl) (by kernel_rfl) (by kernel_rfl) (fun _ _ _ h => h) (Or.inl ⟨by rfl, ?Ry10⟩) (by assumption) ?Rr10
      case Ry10 => first | (intro w hSw; (try dsimp only at hSw); go_simp; done) | (intro w hSw; (try dsimp only at hSw); go_simp; with_reducible rfl)
      case' Rr10 => try simp only [Act.put, List.setIfInBounds_toArray, List.set_cons_zero, List.set_cons_succ]
      refine wpAnyH_takeL (i := 11) (v := ?Rv11) rfl (by kernel_rfl) (by kernel_rfl) (by kernel_rfl) (fun _ _ _ h => h) (Or.inl ⟨by rfl, ?Ry11⟩) (by assumption) ?Rr11
      case Ry11 => first | (intro w hSw; (try dsimp only at hSw); go_simp; done) | (intro w hSw; (try dsimp only at hSw); go_simp; with_reducible rfl)
      case' Rr11 => try simp only [Act.put, List.setIfInBounds_toArray, List.set_cons_zero, List.set_cons_succ]
      refine wpAnyH_takeL (i := 12) (v := ?Rv12) rfl (by kernel_rfl) (by kernel_rfl) (by kernel_rfl) (fun _ _ _ h => h) (Or.inl ⟨by rfl, ?Ry12⟩) (by assumption) ?Rr12
      case Ry12 => first | (intro w hSw; (try dsimp only at hSw); go_simp; done) | (intro w hSw; (try dsimp only at hSw); go_simp; with_reducible rfl)
      case' Rr12 => try simp only [Act.put, List.setIfInBounds_toArray, List.set_cons_zero, List.set_cons_succ]
      refine wpAnyH_takeL (i := 13) (v := ?Rv13) rfl (by kernel_rfl) (by kernel_rfl) (by kernel_rfl) (fun _ _ _ h => h) (Or.inl ⟨by rfl, ?Ry13⟩) (by assumption) ?Rr13
      case Ry13 => first | (intro w hSw; (try dsimp only at hSw); go_simp; done) | (intro w hSw; (try dsimp only at hSw); go_simp; with_reducible rfl)
      case' Rr13 => try simp only [Act.put, List.setIfInBounds_toArray, List.set_cons_zero, List.set_cons_succ]
      refine wpAnyH_takeL (i := 14) (v := ?Rv14) rfl (by kernel_rfl) (by kernel_rfl) (by kernel_rfl) (fun _ _ _ h => h) (Or.inl ⟨by rfl, ?Ry14⟩) (by assumption) ?Rr14
      case Ry14 => first | (intro w hSw; (try dsimp only at hSw); go_simp; done) | (intro w hSw; (try dsimp only at hSw); go_simp; with_reducible rfl)
      case' Rr14 => try simp only [Act.put, List.setIfInBounds_toArray, List.set_cons_zero, List.set_cons_succ]
      refine wpAnyH_takeL (i := 15) (v := ?Rv15) rfl (by kernel_rfl) (by kernel_rfl) (by kernel_rfl) (fun _ _ _ h => h) (Or.inl ⟨by rfl, ?Ry15⟩) (by assumption) ?Rr15
      case Ry15 => first | (intro w hSw; (try dsimp only at hSw); go_simp; done) | (intro w hSw; (try dsimp only at hSw); go_simp; with_reducible rfl)
      case' Rr15 => try simp only [Act.put, List.setIfInBounds_toArray, List.set_cons_zero, List.set_cons_succ]
      refine wpAnyH_ready (rs := [16]) (by kernel_rfl) (by simp) ?_
      refine AllReadyH.consL rfl (fun K hK => ?_) AllReadyH.nil
      go_simp
      go_at_call 14
      refine (store_any _ mb bm (4 * k) _ _ (hmk.out.ext ((Ext.refl _).drew)) (by omega) o.addr ha o.width hq1 hq2 o.num).mono ?_
      rintro e w4 ⟨rfl, hm4, hg4⟩
      have he4 : Ext w w4 := he.out.drew.grown hg4 (fun j hj => by cases hj; exact hbm)
      have HE4 := hid he4
      rw [← storeAll_snoc, ← take_snoc' HOK.out] at hm4
      have HM4 := hid hm4
      obtain ⟨b', off', hA, -, q1, q2, q3, -⟩ := Sl_op_at (HO.out.ext he4) HOK.out
      cases hA
      clear hm4 he4 hg4
      refine hK.out _ _ ⟨q1, q2, q3⟩ (fun hSR1 => ?_)
      clear hK K
      try simp only [Act.put, List.setIfInBounds_toArray, List.set_cons_zero, List.set_cons_succ]
      refine wpAnyH_done (by kernel_rfl) ?_ _
      go_wp2
      go_roundw
      case rel => exact ⟨k + 1, by omega, by go_num, HE4, HM4⟩
      case measure => simp [intOf]; omega
    · obtain rfl : m = k := by omega
      have e1 : ops.take m = ops := List.take_of_length_le (by have := HLM.out; omega)
      rw [e1] at hmk
      clear e1 HM0
      obtain ⟨M, hM⟩ : ∃ M, storeAll (regsOf l) (fun _ => none) ops = M := ⟨_, rfl⟩
      rw [hM] at hmk
      have HMM := hid hM; clear hM
      have hrl : (regsOf l).length ≤ 1000000 := by have := secCheck_le HSC.out; simp [regsOf]; omega
      have hbmlt : bm < wr.heap.size := by have h := hmk.out; obtain ⟨_, _, _, _, _, _, ho, _⟩ := h; exact ho.lt
      go_wp2_with fail
      refine (mclone_any wr mb bm (4 * m) _ _ hmk.out hrl).mono ?_
      rintro e w2 ⟨hx2, mb', bm', rfl, hmb', hbm', hm2⟩
      have hbne : bm' ≠ bm := by omega
      have HX2 := hid hx2
      have HMC := hid hm2
      have HMO := hid (hmk.out.ext hx2)
      have H2 := hid (he.out.trans hx2)
      have hbmw : w.heap.size ≤ bm' := Nat.le_trans he.out.size hbm'
      clear hx2 hm2 hrl hmb'
      go_wp2_with fail
      refine (changes_any w2 mb bm (4 * m) _ _ HMO.out).mono ?_
      rintro e w3 ⟨hx3, v3, C, rfl, hs3, hp3, hm3⟩
      obtain ⟨cA, cC, rfl, -, -⟩ := hs3.form
      have HX3 := hid hx3
      have HS3 := hid hs3
      have HP3 := hid hp3
      have HM3 := hid hm3
      clear hx3 hs3 hp3 hm3
      go_wp2_with fail
      refine (changes_any w3 mb' bm' (4 * m) _ _ (HMC.out.ext HX3.out)).mono ?_
      rintro e w4 ⟨hx4, v4, C2, rfl, hs4, hp4, hm4⟩
      have hCC : C2 = C := asc_ext hp4 HP3.out (fun a => by rw [hm4, HM3.out])
      subst hCC
      obtain ⟨cA2, cC2, rfl, -, -⟩ := hs4.form
      have HX4 := hid hx4
      have HS4 := hid hs4
      clear hx4 hs4 hp4 hm4
      go_wp2_with fail
      refine (words_any w4 w4 (Ext.refl _) cA2 cA C2.length C2.length cC2 cC C2 C2 HS4.out (HS3.out.ext HX4.out)).mono ?_
      rintro e w5 ⟨rfl, hx5⟩
      rw [show decide (C2 = C2) = true by simp]
      have HX5 := hid (HX3.out.trans (HX4.out.trans hx5))
      clear hx5
      go_wp2_with fail
      refine (new9_any w5 A n c l (HL.out.ext (H2.out.trans HX5.out))).mono ?_
      rintro e w6 ⟨hx6, ⟨h0, -⟩ | ⟨-, LA, lc, rfl, hL⟩⟩
      · exact absurd HSC.out h0
      have HX6 := hid (HX5.out.trans hx6)
      have HL6 := hid hL
      clear hx6 hL
      go_wp2_with fail
      obtain ⟨w7, hw7⟩ : ∃ w7, w6.alloc (Obj.cells #[.bool true, .slice LA l.length lc, .slice none 0 0] 45) = w7 := ⟨_, rfl⟩
      obtain ⟨g, hg⟩ : ∃ g, w6.heap.size = g := ⟨_, rfl⟩
      have hE7 : Ext w6 w7 := by rw [← hw7]; exact (Ext.refl w6).alloc _
      have hV : RefVar w6 w7 g l LA lc none 0 [] := by
        refine ⟨hE7, ?_, ?_, ?_, fun j => ?_, (HL6.out.mono (S' := fun b => b < w6.heap.size) (fun b _ hb => hb.lt)).ext hE7, Sl.nil⟩
        · rw [← hw7, ← hg]; simp
        · rw [← hw7, ← hg]; simp
        · rw [← hw7, ← hg]; simp
        · rw [← hw7, ← hg]; simp
      have HV := hid hV
      rw [hw7, hg]
      have HG := hid hg
      have H6 := hid (H2.out.trans HX6.out)
      clear hw7 hE7 hV hg
      go_loopw [14] (fun i wr => ∃ (k : Nat) (CA : Option Addr) (cd : Nat) (cs : List (Nat × Nat)), k ≤ m ∧ i = .int .i64 k ∧ Hid (RefVar w6 wr g l LA lc CA cd cs) ∧ Hid (CellsOk (regsOf l) cs (storeAll (regsOf l) (fun _ => none) (ops.take k)) (4 * k))) (fun i _ => m - (intOf i).toNat)
      case atStart => exact ⟨0, none, 0, [], by omega, rfl, HV, hid (CellsOk.start _)⟩
      case round =>
        obtain ⟨k, CA, cd, cs, hk, rfl, hv, hok⟩ := hrel
        have b0 := hv.out.b0
        have b1 := hv.out.b1
        have b2 := hv.out.b2
        have hx := hid (H6.out.trans hv.out.ext)
        by_cases h1 : k < m
        · obtain ⟨o, ho⟩ : ∃ o, ops[k]? = some o := ⟨_, List.getElem?_eq_getElem (by have := HLM.out; omega)⟩
          obtain ⟨b, off, rfl, -, s1, s2, s3, hq1, hq2, ha, hxo⟩ := Sl_op_at HO.out ho
          have s1 := hx.out.cell s1
          have s2 := hx.out.cell s2
          have s3 := hx.out.cell s3
          have HOK := hid ho; clear ho
          have hk0 : (0 : Int) ≤ (k : Int) := by omega
          have hk1 : (k : Int) < (m : Int) := by omega
          have hcl : cs.length ≤ 1000 := by have := hok.out.len; omega
          go_wp2_with fail
          have hbg : b ≠ g := by
            have h1 := World.block_lt_of_cell? _ _ s1
            obtain ⟨b9, off9, hA9, -, u1, -⟩ := Sl_op_at HO.out HOK.out
            cases hA9
            have h2 := World.block_lt_of_cell? _ _ u1
            have h3 := H6.out.size
            have h4 := HG.out
            simp only at h2
            omega
          refine wp_region_held_drew (S := (fun w' => w'.cell? ⟨b, off + k * 4 + 1, none⟩ = some (.int .i64 o.width) ∧ w'.cell? ⟨b, off + k * 4 + 2, none⟩ = some (.int .u32 o.addr) ∧ w'.cell? ⟨b, off + k * 4 + 3, none⟩ = some (.int .u32 o.num))) (by kernel_rfl) ⟨s1, s2, s3⟩ (fun hSQ0 => ?_)
          refine wpAnyH_takeL (i := 1) (v := ?Qv1) rfl (by kernel_rfl) (by kernel_rfl) (by kernel_rfl) (fun _ _ _ h => h) (Or.inl ⟨by rfl, ?Qy1⟩) (by assumption) ?Qr1
          case Qy1 => first | (intro w hSw; (try dsimp only at hSw); go_simp; done) | (intro w hSw; (try dsimp only at hSw); go_simp; with_reducible rfl)
          case' Qr1 => try simp only [Act.put, List.setIfInBounds_toArray, List.set_cons_zero, List.set_cons_succ]
          refine wpAnyH_takeL (i := 2) (v := ?Qv2) rfl (by kernel_rfl) (by kernel_rfl) (by kernel_rfl) (fun _ _ _ h => h) (Or.inl ⟨by rfl, ?Qy2⟩) (by assumption) ?Qr2
          case Qy2 => first | (intro w hSw; (try dsimp only at hSw); go_simp; done) | (intro w hSw; (try dsimp only at hSw); go_simp; with_reducible rfl)
          case' Qr2 => try simp only [Act.put, List.setIfInBounds_toArray, List.set_cons_zero, List.set_cons_succ]
          refine wpAnyH_takeL (i := 3) (v := ?Qv3) rfl (by kernel_rfl) (by kernel_rfl) (by kernel_rfl) (fun _ _ _ h => h) (Or.inl ⟨by rfl, ?Qy3⟩) (by assumption) ?Qr3
          case Qy3 => first | (intro w hSw; (try dsimp only at hSw); go_simp; done) | (intro w hSw; (try dsimp only at hSw); go_simp; with_reducible rfl)
          case' Qr3 => try simp only [Act.put, List.setIfInBounds_toArray, List.set_cons_zero, List.set_cons_succ]
          refine wpAnyH_takeL (i := 4) (v := ?Qv4) rfl (by kernel_rfl) (by kernel_rfl) (by kernel_rfl) (fun _ _ _ h => h) (Or.inl ⟨by rfl, ?Qy4⟩) (by assumption) ?Qr4
          case Qy4 => first | (intro w hSw; (try dsimp only at hSw); go_simp; done) | (intro w hSw; (try dsimp only at hSw); go_simp; with_reducible rfl)
          case' Qr4 => try simp only [Act.put, List.setIfInBounds_toArray, List.set_cons_zero, List.set_cons_succ]
          refine wpAnyH_takeL (i := 5) (v := ?Qv5) rfl (by kernel_rfl) (by kernel_rfl) (by kernel_rfl) (fun _ _ _ h => h) (Or.inl ⟨by rfl, ?Qy5⟩) (by assumption) ?Qr5
          case Qy5 => first | (intro w hSw; (try dsimp only at hSw); go_simp; done) | (intro w hSw; (try dsimp only at hSw); go_simp; with_reducible rfl)
          case' Qr5 => try simp only [Act.put, List.setIfInBounds_toArray, List.set_cons_zero, List.set_cons_succ]
          refine wpAnyH_takeL (i := 6) (v := ?Qv6) rfl (by kernel_rfl) (by kernel_rfl) (by kernel_rfl) (fun _ _ _ h => h) (Or.inl ⟨by rfl, ?Qy6⟩) (by assumption) ?Qr6
          case Qy6 => first | (intro w hSw; (try dsimp only at hSw); go_simp; done) | (intro w hSw; (try dsimp only at hSw); go_simp; with_reducible rfl)
          case' Qr6 => try simp only [Act.put, List.setIfInBounds_toArray, List.set_cons_zero, List.set_cons_succ]
          refine wpAnyH_takeL (i := 7) (v := ?Qv7) rfl (by kernel_rfl) (by kernel_rfl) (by kernel_rfl) (fun _ _ _ h => h) (Or.inl ⟨by rfl, ?Qy7⟩) (by assumption) ?Qr7
          case Qy7 => first | (intro w hSw; (try dsimp only at hSw); go_simp; done) | (intro w hSw; (try dsimp only at hSw); go_simp; with_reducible rfl)
          case' Qr7 => try simp only [Act.put, List.setIfInBounds_toArray, List.set_cons_zero, List.set_cons_succ]
          refine wpAnyH_takeL (i := 8) (v := ?Qv8) rfl (by kernel_rfl) (by kernel_rfl) (by kernel_rfl) (fun _ _ _ h => h) (Or.inl ⟨by rfl, ?Qy8⟩) (by assumption) ?Qr8
          case Qy8 => first | (intro w hSw; (try dsimp only at hSw); go_simp; done) | (intro w hSw; (try dsimp only at hSw); go_simp; with_reducible rfl)
          case' Qr8 => try simp only [Act.put, List.setIfInBounds_toArray, List.set_cons_zero, List.set_cons_succ]
          refine wpAnyH_takeL (i := 9) (v := ?Qv9) rfl (by kernel_rfl) (by kernel_rfl) (by kernel_rfl) (fun _ _ _ h => h) (Or.inl ⟨by rfl, ?Qy9⟩) (by assumption) ?Qr9
          case Qy9 => first | (intro w hSw; (try dsimp only at hSw); go_simp; done) | (intro w hSw; (try dsimp only at hSw); go_simp; with_reducible rfl)
          case' Qr9 => try simp only [Act.put, List.setIfInBounds_toArray, List.set_cons_zero, List.set_cons_succ]
          refine wpAnyH_takeL (i := 10) (v := ?Qv10) rfl (by kernel_rfl) (by kernel_rfl) (by kernel_rfl) (fun _ _ _ h => h) (Or.inl ⟨by rfl, ?Qy10⟩) (by assumption) ?Qr10
          case Qy10 => first | (intro w hSw; (try dsimp only at hSw); go_simp; done) | (intro w hSw; (try dsimp only at hSw); go_simp; with_reducible rfl)
          case' Qr10 => try simp only [Act.put, List.setIfInBounds_toArray, List.set_cons_zero, List.set_cons_succ]
          refine wpAnyH_takeL (i := 11) (v := ?Qv11) rfl (by kernel_rfl) (by kernel_rfl) (by kernel_rfl) (fun _ _ _ h => h) (Or.inl ⟨by rfl, ?Qy11⟩) (by assumption) ?Qr11
          case Qy11 => first | (intro w hSw; (try dsimp only at hSw); go_simp; done) | (intro w hSw; (try dsimp only at hSw); go_simp; with_reducible rfl)
          case' Qr11 => try simp only [Act.put, List.setIfInBounds_toArray, List.set_cons_zero, List.set_cons_succ]
          refine wpAnyH_takeL (i := 12) (v := ?Qv12) rfl (by kernel_rfl) (by kernel_rfl) (by kernel_rfl) (fun _ _ _ h => h) (Or.inl ⟨by rfl, ?Qy12⟩) (by assumption) ?Qr12
          case Qy12 => first | (intro w hSw; (try dsimp only at hSw); go_simp; done) | (intro w hSw; (try dsimp only at hSw); go_simp; with_reducible rfl)
          case' Qr12 => try simp only [Act.put, List.setIfInBounds_toArray, List.set_cons_zero, List.set_cons_succ]
          refine wpAnyH_takeL (i := 13) (v := ?Qv13) rfl (by kernel_rfl) (by kernel_rfl) (by kernel_rfl) (fun _ _ _ h => h) (Or.inl ⟨by rfl, ?Qy13⟩) (by assumption) ?Qr13
          case Qy13 => first | (intro w hSw; (try dsimp only at hSw); go_simp; done) | (intro w hSw; (try dsimp only at hSw); go_simp; with_reducible rfl)
          case' Qr13 => try simp only [Act.put, List.setIfInBounds_toArray, List.set_cons_zero, List.set_cons_succ]
          refine wpAnyH_takeL (i := 14) (v := ?Qv14) rfl (by kernel_rfl) (by kernel_rfl) (by kernel_rfl) (fun _ _ _ h => h) (Or.inl ⟨by rfl, ?Qy14⟩) (by assumption) ?Qr14
          case Qy14 => first | (intro w hSw; (try dsimp only at hSw); go_simp; done) | (intro w hSw; (try dsimp only at hSw); go_simp; with_reducible rfl)
          case' Qr14 => try simp only [Act.put, List.setIfInBounds_toArray, List.set_cons_zero, List.set_cons_succ]
          refine wpAnyH_takeL (i := 15) (v := ?Qv15) rfl (by kernel_rfl) (by kernel_rfl) (by kernel_rfl) (fun _ _ _ h => h) (Or.inl ⟨by rfl, ?Qy15⟩) (by assumption) ?Qr15
          case Qy15 => first | (intro w hSw; (try dsimp only at hSw); go_simp; done) | (intro w hSw; (try dsimp only at hSw); go_simp; with_reducible rfl)
          case' Qr15 => try simp only [Act.put, List.setIfInBounds_toArray, List.set_cons_zero, List.set_cons_succ]
          refine wpAnyH_ready (rs := [0]) (by kernel_rfl) (by simp) ?_
          refine AllReadyH.consL rfl (fun K hK => ?_) AllReadyH.nil
          go_simp
          refine hK.out _ _ ⟨s1, s2, s3⟩ (fun hSQ1 => ?_)
          clear hK K
          try simp only [Act.put, List.setIfInBounds_toArray, List.set_cons_zero, List.set_cons_succ]
          refine wpAnyH_ready (rs := [16]) (by kernel_rfl) (by simp) ?_
          refine AllReadyH.consL rfl (fun K hK => ?_) AllReadyH.nil
          go_simp
          go_at_call 20
          refine (store9_any wr _ ((Ext.refl _).drew) LA l.length lc l hv.out.secs.all HSC.out CA cs.length cd cs (fun b => b ≠ g ∧ b < wr.heap.size) (hv.out.cells.mono (fun b h1 h2 => ⟨h1, h2.lt⟩)) (by omega) o.addr ha o.width hq1 hq2 o.num hxo).mono ?_
          rintro e w8 ⟨hx8, A8, d8, rfl, hc8⟩
          have HX8 := hid hx8.drew_left
          have HC8 := hid (hc8.mono (S' := fun b => b ≠ g ∨ wr.heap.size ≤ b) (fun b hb _ => by rcases hb with h | h; exact .inl h.1; exact .inr h))
          clear hx8 hc8
          refine hK.out _ _ ⟨HX8.out.cell s1, HX8.out.cell s2, HX8.out.cell s3⟩ (fun hSQ2 => ?_)
          clear hK K
          try simp only [Act.put, List.setIfInBounds_toArray, List.set_cons_zero, List.set_cons_succ]
          refine wpAnyH_takeL (i := 17) (v := ?Qv17) rfl (by kernel_rfl) (by kernel_rfl) (by kernel_rfl) (fun _ _ _ h => h) (Or.inl ⟨by rfl, ?Qy17⟩) (by assumption) ?Qr17
          case Qy17 => first | (intro w hSw; (try dsimp only at hSw); go_simp; done) | (intro w hSw; (try dsimp only at hSw); go_simp; with_reducible rfl)
          case' Qr17 => try simp only [Act.put, List.setIfInBounds_toArray, List.set_cons_zero, List.set_cons_succ]
          refine wpAnyH_takeL (i := 18) (v := ?Qv18) rfl (by kernel_rfl) (by kernel_rfl) (by kernel_rfl) (fun _ _ _ h => h) (Or.inl ⟨by rfl, ?Qy18⟩) (by assumption) ?Qr18
          case Qy18 => first | (intro w hSw; (try dsimp only at hSw); go_simp; done) | (intro w hSw; (try dsimp only at hSw); go_simp; with_reducible rfl)
          case' Qr18 => try simp only [Act.put, List.setIfInBounds_toArray, List.set_cons_zero, List.set_cons_succ]
          refine wpAnyH_takeL (i := 19) (v := ?Qv19) rfl (by kernel_rfl) (by kernel_rfl) (by kernel_rfl) (fun _ _ _ h => h) (Or.inl ⟨by rfl, ?Qy19⟩) (by assumption) ?Qr19
          case Qy19 => first | (intro w hSw; (try dsimp only at hSw); go_simp; done) | (intro w hSw; (try dsimp only at hSw); go_simp; with_reducible rfl)
          case' Qr19 => try simp only [Act.put, List.setIfInBounds_toArray, List.set_cons_zero, List.set_cons_succ]
          refine wpAnyH_ready (rs := [20]) (by kernel_rfl) (by simp) ?_
          refine AllReadyH.consL rfl (fun K hK => ?_) AllReadyH.nil
          have q0 := HX8.out.cell b0
          have q1 := HX8.out.cell b1
          have q2 := HX8.out.cell b2
          have p1 := HX8.out.cell s1
          have p2 := HX8.out.cell s2
          have p3 := HX8.out.cell s3
          have hglt : g < wr.heap.size := World.block_lt_of_cell? _ _ b0
          have f0 := (HX8.out.frozen (p := ⟨g, 0, none⟩) hglt).trans (hv.out.fz 0)
          have f1 := (HX8.out.frozen (p := ⟨g, 1, none⟩) hglt).trans (hv.out.fz 1)
          have f2 := (HX8.out.frozen (p := ⟨g, 2, none⟩) hglt).trans (hv.out.fz 2)
          clear b0 b1 b2 s1 s2 s3 hglt
          go_simp
          refine hK.out _ _ ⟨by simp [World.cell?_setCell_other, hbg, p1], by simp [World.cell?_setCell_other, hbg, p2], by simp [World.cell?_setCell_other, hbg, p3]⟩ (fun hSQ3 => ?_)
          clear hK K
          try simp only [Act.put, List.setIfInBounds_toArray, List.set_cons_zero, List.set_cons_succ]
          refine wpAnyH_done (by kernel_rfl) ?_ _
          have HOKN := hid (hok.out.store HSC.out o.width o.addr o.num)
          go_wp2
          go_roundw
          case rel => exact ⟨k + 1, A8, d8, _, by omega, by go_num, hid (hv.out.put HG.out.symm HX8.out HC8.out), hid (by rw [take_snoc' HOK.out, storeAll_snoc]; exact HOKN.out)⟩
          case measure => simp [intOf]; omega
        · obtain rfl : m = k := by omega
          have e1 : ops.take m = ops := List.take_of_length_le (by have := HLM.out; omega)
          have hokk := hok.out
          rw [e1, HMM.out] at hokk
          have HOKK := hid hokk
          clear e1 hokk b0 b1 b2
          go_wp2
          obtain ⟨nb, hnb⟩ : ∃ nb, 4 * m = nb := ⟨_, rfl⟩
          have hnb1 : nb ≤ 160 := by omega
          have HMC6 := hid (HMC.out.ext HX6.out)
          have HMO6 := hid (HMO.out.ext HX6.out)
          rw [hnb] at HMC6 HMO6 HOKK
          have hbmlt6 : bm' < w6.heap.size := by have h := HMC6.out; obtain ⟨_, _, _, _, _, _, ho, _⟩ := h; exact ho.lt
          have hB : Both w6 wr mb' bm' g l LA lc CA cd cs M (nb + 4 * 0) := by
            obtain ⟨ext, c0, c1, c2, fz, secs, cells⟩ := hv.out
            exact ⟨HMC6.out.ext ext, fun b hb _ => ext.block hb, c0, c1, c2, fz, secs, cells, HOKK.out⟩
          have HBB := hid hB
          clear hnb hB hv hok
          go_loopw [15] (fun i wr => ∃ (k : Nat) (CA : Option Addr) (cd : Nat) (cs : List (Nat × Nat)) (M : Nat → Option Nat), k ≤ m2 ∧ i = .int .i64 k ∧ Hid (Both w6 wr mb' bm' g l LA lc CA cd cs M (nb + 4 * k)) ∧ Hid (Ext w wr)) (fun i _ => m2 - (intOf i).toNat)
          case atStart => exact ⟨0, CA, cd, cs, M, by omega, rfl, HBB, hx⟩
          case round =>
            clear hx HBB HOKK
            obtain ⟨k, CA, cd, cs, Mk, hk, rfl, hb, hx⟩ := hrel
            have b0 := hb.out.b0
            have b1 := hb.out.b1
            have b2 := hb.out.b2
            by_cases h1 : k < m2
            · obtain ⟨o, ho⟩ : ∃ o, more[k]? = some o := ⟨_, List.getElem?_eq_getElem (by have := HLM2.out; omega)⟩
              obtain ⟨b, off, rfl, s0, s1, s2, s3, hq1, hq2, ha, hxo⟩ := Sl_op_at HO2.out ho
              have s0 := hx.out.cell s0
              have s1 := hx.out.cell s1
              have s2 := hx.out.cell s2
              have s3 := hx.out.cell s3
              have hk0 : (0 : Int) ≤ (k : Int) := by omega
              have hk1 : (k : Int) < (m2 : Int) := by omega
              have hcl : cs.length ≤ 1000 := by have := hb.out.ok.len; omega
              have HOK2 := hid ho
              clear ho
              have hlt := hb.out.glt
              have hbmr : bm' < wr.heap.size := by have h := hb.out.mem; obtain ⟨_, _, _, _, _, _, ho, _⟩ := h; exact ho.lt
              obtain ⟨cs', hcs'⟩ : ∃ cs', kindCells (regsOf l) cs o.kind o.width o.addr o.num = cs' := ⟨_, rfl⟩
              obtain ⟨M', hM'⟩ : ∃ M', kindMap (regsOf l) Mk o.kind o.width o.addr o.num = M' := ⟨_, rfl⟩
              have hok := hb.out.ok.next HSC.out o.kind o.width o.addr o.num
              rw [hcs', hM'] at hok
              have HOK := hid hok
              have call := fun (wy : World) (he : Ext wr wy) => samecall_any wy mb' bm' l HSC.out Mk (nb + 4 * k) (hb.out.mem.ext he) (by omega) LA l.length lc (hb.out.secs.all.ext he) (fun b => b ≠ g ∧ b < wr.heap.size) CA cs.length cd cs ((hb.out.cells.mono (S' := fun b => b ≠ g ∧ b < wr.heap.size) (fun b h1 h2 => ⟨h1, h2.lt⟩)).ext he) hcl hb.out.ok.look hb.out.ok.asc hb.out.ok.keys o.kind o.width o.addr o.num hq1 hq2 ha hxo
              rw [hcs', hM'] at call
              have CALL := hid call
              clear hcs' hM' hok call
              go_upto_region 22 with (fail)
              go_cut [16, 17] from 121 to 139 (fun v10 v11 wx => v11 = .bool true ∧ ∃ (gn : Nat) (A4 : Option Addr) (d4 : Nat), v10 = .pointer (some ⟨gn, 0, none⟩) ∧ Hid (After wr wx mb' bm' g gn l LA lc A4 d4 cs' M' (nb + 4 * k + 4)))
              case first =>
                refine wp_region_held_drew (S := (fun w' => (w'.cell? ⟨g, 0, none⟩ = some (.bool true) ∧ w'.cell? ⟨g, 1, none⟩ = some (.slice LA l.length lc) ∧ w'.cell? ⟨g, 2, none⟩ = some (.slice CA cs.length cd)) ∧ w'.cell? ⟨b, off + k * 4, none⟩ = some (.int .i64 o.kind) ∧ w'.cell? ⟨b, off + k * 4 + 1, none⟩ = some (.int .i64 o.width) ∧ w'.cell? ⟨b, off + k * 4 + 2, none⟩ = some (.int .u32 o.addr) ∧ w'.cell? ⟨b, off + k * 4 + 3, none⟩ = some (.int .u32 o.num))) (by kernel_rfl) ⟨⟨b0, b1, b2⟩, s0, s1, s2, s3⟩ (fun hSa => ?_)
                refine wpAnyH_takeL (i := 0) (v := ?TXv0) rfl (by kernel_rfl) (by kernel_rfl) (by kernel_rfl) (fun _ _ _ h => h) (Or.inl ⟨by rfl, ?TXy0⟩) (by assumption) ?TXr0
                case TXy0 => first | (intro w hSw; (try dsimp only at hSw); go_simp; done) | (intro w hSw; (try dsimp only at hSw); go_simp; with_reducible rfl)
                case' TXr0 => try simp only [Act.put, List.setIfInBounds_toArray, List.set_cons_zero, List.set_cons_succ]
                refine wpAnyH_takeL (i := 1) (v := ?TXv1) rfl (by kernel_rfl) (by kernel_rfl) (by kernel_rfl) (fun _ _ _ h => h) (Or.inl ⟨by rfl, ?TXy1⟩) (by assumption) ?TXr1
                case TXy1 => first | (intro w hSw; (try dsimp only at hSw); go_simp; done) | (intro w hSw; (try dsimp only at hSw); go_simp; with_reducible rfl)
                case' TXr1 => try simp only [Act.put, List.setIfInBounds_toArray, List.set_cons_zero, List.set_cons_succ]
                refine wpAnyH_takeL (i := 2) (v := ?TXv2) rfl (by kernel_rfl) (by kernel_rfl) (by kernel_rfl) (fun _ _ _ h => h) (Or.inl ⟨by rfl, ?TXy2⟩) (by assumption) ?TXr2
                case TXy2 => first | (intro w hSw; (try dsimp only at hSw); go_simp; done) | (intro w hSw; (try dsimp only at hSw); go_simp; with_reducible rfl)
                case' TXr2 => try simp only [Act.put, List.setIfInBounds_toArray, List.set_cons_zero, List.set_cons_succ]
                refine wpAnyH_takeL (i := 3) (v := ?TXv3) rfl (by kernel_rfl) (by kernel_rfl) (by kernel_rfl) (fun _ _ _ h => h) (Or.inl ⟨by rfl, ?TXy3⟩) (by assumption) ?TXr3
                case TXy3 => first | (intro w hSw; (try dsimp only at hSw); go_simp; done) | (intro w hSw; (try dsimp only at hSw); go_simp; with_reducible rfl)
                case' TXr3 => try simp only [Act.put, List.setIfInBounds_toArray, List.set_cons_zero, List.set_cons_succ]
                refine wpAnyH_takeL (i := 4) (v := ?TXv4) rfl (by kernel_rfl) (by kernel_rfl) (by kernel_rfl) (fun _ _ _ h => h) (Or.inl ⟨by rfl, ?TXy4⟩) (by assumption) ?TXr4
                case TXy4 => first | (intro w hSw; (try dsimp only at hSw); go_simp; done) | (intro w hSw; (try dsimp only at hSw); go_simp; with_reducible rfl)
                case' TXr4 => try simp only [Act.put, List.setIfInBounds_toArray, List.set_cons_zero, List.set_cons_succ]
                refine wpAnyH_takeL (i := 5) (v := ?TXv5) rfl (by kernel_rfl) (by kernel_rfl) (by kernel_rfl) (fun _ _ _ h => h) (Or.inl ⟨by rfl, ?TXy5⟩) (by assumption) ?TXr5
                case TXy5 => first | (intro w hSw; (try dsimp only at hSw); go_simp; done) | (intro w hSw; (try dsimp only at hSw); go_simp; with_reducible rfl)
                case' TXr5 => try simp only [Act.put, List.setIfInBounds_toArray, List.set_cons_zero, List.set_cons_succ]
                refine wpAnyH_ready (rs := [6, 10]) (by kernel_rfl) (by simp) ?_
                refine AllReadyH.consL rfl (fun K hK => ?_) (AllReadyH.consL rfl (fun K hK => ?_) AllReadyH.nil)
                · go_simp
                  go_at_call 24
                  refine (CALL.out _ ((Ext.refl _).drew)).mono ?_
                  rintro e w4 ⟨hgr, hm4, A4, d4, rfl, hc4⟩
                  have hgr := grownBy_drew hgr
                  have hown := hb.out.mem
                  obtain ⟨_, _, DD, -, -, -, hown, -⟩ := hown
                  have b0 := cell_map hown hgr b0
                  have b1 := cell_map hown hgr b1
                  have b2 := cell_map hown hgr b2
                  have s0 := cell_map hown hgr s0
                  have s1 := cell_map hown hgr s1
                  have s2 := cell_map hown hgr s2
                  have s3 := cell_map hown hgr s3
                  have HGR := hid hgr
                  have HM4 := hid hm4
                  have HC4 := hid hc4
                  have HEX := hid (fun o : Obj => (Ext.refl w4).alloc o)
                  clear hgr hm4 hc4 hown
                  refine hK.out _ _ ⟨⟨b0, b1, b2⟩, s0, s1, s2, s3⟩ (fun hSb => ?_)
                  clear hK K
                  try simp only [Act.put, List.setIfInBounds_toArray, List.set_cons_zero, List.set_cons_succ]
                  refine wpAnyH_takeL (i := 7) (v := ?TYv7) rfl (by kernel_rfl) (by kernel_rfl) (by kernel_rfl) (fun _ _ _ h => h) (Or.inl ⟨by rfl, ?TYy7⟩) (by assumption) ?TYr7
                  case TYy7 => first | (intro w hSw; (try dsimp only at hSw); go_simp; done) | (intro w hSw; (try dsimp only at hSw); go_simp; with_reducible rfl)
                  case' TYr7 => try simp only [Act.put, List.setIfInBounds_toArray, List.set_cons_zero, List.set_cons_succ]
                  refine wpAnyH_takeL (i := 8) (v := ?TYv8) rfl (by kernel_rfl) (by kernel_rfl) (by kernel_rfl) (fun _ _ _ h => h) (Or.inl ⟨by rfl, ?TYy8⟩) (by assumption) ?TYr8
                  case TYy8 => first | (intro w hSw; (try dsimp only at hSw); go_simp; done) | (intro w hSw; (try dsimp only at hSw); go_simp; with_reducible rfl)
                  case' TYr8 => try simp only [Act.put, List.setIfInBounds_toArray, List.set_cons_zero, List.set_cons_succ]
                  refine wpAnyH_takeL (i := 9) (v := ?TYv9) rfl (by kernel_rfl) (by kernel_rfl) (by kernel_rfl) (fun _ _ _ h => h) (Or.inl ⟨by rfl, ?TYy9⟩) (by assumption) ?TYr9
                  case TYy9 => first | (intro w hSw; (try dsimp only at hSw); go_simp; done) | (intro w hSw; (try dsimp only at hSw); go_simp; with_reducible rfl)
                  case' TYr9 => try simp only [Act.put, List.setIfInBounds_toArray, List.set_cons_zero, List.set_cons_succ]
                  refine wpAnyH_ready (rs := [10]) (by kernel_rfl) (by simp) ?_
                  refine AllReadyH.consL rfl (fun K hK => ?_) AllReadyH.nil
                  go_simp
                  refine hK.out _ _ ⟨⟨(HEX.out _).cell b0, (HEX.out _).cell b1, (HEX.out _).cell b2⟩, (HEX.out _).cell s0, (HEX.out _).cell s1, (HEX.out _).cell s2, (HEX.out _).cell s3⟩ (fun hSTY1 => ?_)
                  clear hK K
                  try simp only [Act.put, List.setIfInBounds_toArray, List.set_cons_zero, List.set_cons_succ]
                  refine wpAnyH_ready (rs := [11]) (by kernel_rfl) (by simp) ?_
                  refine AllReadyH.consL rfl (fun K hK => ?_) AllReadyH.nil
                  go_simp
                  refine hK.out _ _ ⟨⟨(HEX.out _).cell b0, (HEX.out _).cell b1, (HEX.out _).cell b2⟩, (HEX.out _).cell s0, (HEX.out _).cell s1, (HEX.out _).cell s2, (HEX.out _).cell s3⟩ (fun hSTY2 => ?_)
                  clear hK K
                  try simp only [Act.put, List.setIfInBounds_toArray, List.set_cons_zero, List.set_cons_succ]
                  refine wpAnyH_takeL (i := 12) (v := ?TYv12) rfl (by kernel_rfl) (by kernel_rfl) (by kernel_rfl) (fun _ _ _ h => h) (Or.inl ⟨by rfl, ?TYy12⟩) (by assumption) ?TYr12
                  case TYy12 => first | (intro w hSw; (try dsimp only at hSw); go_simp; done) | (intro w hSw; (try dsimp only at hSw); go_simp; with_reducible rfl)
                  case' TYr12 => try simp only [Act.put, List.setIfInBounds_toArray, List.set_cons_zero, List.set_cons_succ]
                  refine wpAnyH_done (by kernel_rfl) ?_ _
                  go_wp2_with fail
                  go_meet
                  refine ⟨rfl, w4.heap.size, A4, d4, rfl, hid ⟨grown_then HGR.out (HEX.out _), HM4.out.ext (HEX.out _), ((HC4.out.mono (fun b hb _ => by rcases hb with h | h; exact .inl h.1; exact .inr h)).ext (HEX.out _)), by simp, by simp, by simp⟩⟩
                · go_simp
                  have hE1 := ((Ext.refl wr).alloc (Obj.cells #[.bool false, .slice none 0 0, .slice none 0 0] 45)).drew
                  have z0 : (wr.alloc (Obj.cells #[.bool false, .slice none 0 0, .slice none 0 0] 45)).drew.cell? ⟨wr.heap.size, 0, none⟩ = some (.bool false) := new_at wr [.bool false, .slice none 0 0, .slice none 0 0] _ _ rfl 0 _ rfl
                  have z1 : (wr.alloc (Obj.cells #[.bool false, .slice none 0 0, .slice none 0 0] 45)).drew.cell? ⟨wr.heap.size, 1, none⟩ = some (.slice none 0 0) := new_at wr [.bool false, .slice none 0 0, .slice none 0 0] _ _ rfl 1 _ rfl
                  have z2 : (wr.alloc (Obj.cells #[.bool false, .slice none 0 0, .slice none 0 0] 45)).drew.cell? ⟨wr.heap.size, 2, none⟩ = some (.slice none 0 0) := new_at wr [.bool false, .slice none 0 0, .slice none 0 0] _ _ rfl 2 _ rfl
                  have zf : ∀ j, (wr.alloc (Obj.cells #[.bool false, .slice none 0 0, .slice none 0 0] 45)).drew.frozen? ⟨wr.heap.size, j, none⟩ = false := fun j => new_free wr [.bool false, .slice none 0 0, .slice none 0 0] _ _ rfl j
                  obtain ⟨wz, hwz⟩ : ∃ wz, (wr.alloc (Obj.cells #[.bool false, .slice none 0 0, .slice none 0 0] 45)).drew = wz := ⟨_, rfl⟩
                  have hszz : wz.heap.size = wr.heap.size + 1 := by rw [← hwz]; simp
                  rw [hwz] at hE1 z0 z1 z2 zf
                  rw [hwz]
                  have b0 := hE1.cell b0
                  have b1 := hE1.cell b1
                  have b2 := hE1.cell b2
                  have s0 := hE1.cell s0
                  have s1 := hE1.cell s1
                  have s2 := hE1.cell s2
                  have s3 := hE1.cell s3
                  have HE1 := hid hE1
                  have HSZZ := hid hszz
                  clear hwz hE1 hszz
                  refine hK.out _ _ ⟨⟨b0, b1, b2⟩, s0, s1, s2, s3⟩ (fun hSb => ?_)
                  clear hK K
                  try simp only [Act.put, List.setIfInBounds_toArray, List.set_cons_zero, List.set_cons_succ]
                  refine wpAnyH_ready (rs := [6]) (by kernel_rfl) (by simp) ?_
                  refine AllReadyH.consL rfl (fun K hK => ?_) AllReadyH.nil
                  go_simp
                  go_at_call 24
                  refine (CALL.out _ HE1.out).mono ?_
                  rintro e w4 ⟨hgr, hm4, A4, d4, rfl, hc4⟩
                  have hown := hb.out.mem.ext HE1.out
                  obtain ⟨_, _, DD, -, -, -, hown, -⟩ := hown
                  have b0 := cell_map hown hgr b0
                  have b1 := cell_map hown hgr b1
                  have b2 := cell_map hown hgr b2
                  have s0 := cell_map hown hgr s0
                  have s1 := cell_map hown hgr s1
                  have s2 := cell_map hown hgr s2
                  have s3 := cell_map hown hgr s3
                  have z0 := cell_map hown hgr z0
                  have z1 := cell_map hown hgr z1
                  have z2 := cell_map hown hgr z2
                  have f0 := (World.frozen?_of_block (hgr.block wr.heap.size (by have := HSZZ.out; omega) (by simp; omega))).trans (zf 0)
                  have f1 := (World.frozen?_of_block (hgr.block wr.heap.size (by have := HSZZ.out; omega) (by simp; omega))).trans (zf 1)
                  have f2 := (World.frozen?_of_block (hgr.block wr.heap.size (by have := HSZZ.out; omega) (by simp; omega))).trans (zf 2)
                  have HGR := hid hgr
                  have HM4 := hid hm4
                  have HC4 := hid hc4
                  clear hgr hm4 hc4 hown zf
                  refine hK.out _ _ ⟨⟨b0, b1, b2⟩, s0, s1, s2, s3⟩ (fun hSTZ1 => ?_)
                  clear hK K
                  try simp only [Act.put, List.setIfInBounds_toArray, List.set_cons_zero, List.set_cons_succ]
                  refine wpAnyH_takeL (i := 7) (v := ?TZv7) rfl (by kernel_rfl) (by kernel_rfl) (by kernel_rfl) (fun _ _ _ h => h) (Or.inl ⟨by rfl, ?TZy7⟩) (by assumption) ?TZr7
                  case TZy7 => first | (intro w hSw; (try dsimp only at hSw); go_simp; done) | (intro w hSw; (try dsimp only at hSw); go_simp; with_reducible rfl)
                  case' TZr7 => try simp only [Act.put, List.setIfInBounds_toArray, List.set_cons_zero, List.set_cons_succ]
                  refine wpAnyH_takeL (i := 8) (v := ?TZv8) rfl (by kernel_rfl) (by kernel_rfl) (by kernel_rfl) (fun _ _ _ h => h) (Or.inl ⟨by rfl, ?TZy8⟩) (by assumption) ?TZr8
                  case TZy8 => first | (intro w hSw; (try dsimp only at hSw); go_simp; done) | (intro w hSw; (try dsimp only at hSw); go_simp; with_reducible rfl)
                  case' TZr8 => try simp only [Act.put, List.setIfInBounds_toArray, List.set_cons_zero, List.set_cons_succ]
                  refine wpAnyH_takeL (i := 9) (v := ?TZv9) rfl (by kernel_rfl) (by kernel_rfl) (by kernel_rfl) (fun _ _ _ h => h) (Or.inl ⟨by rfl, ?TZy9⟩) (by assumption) ?TZr9
                  case TZy9 => first | (intro w hSw; (try dsimp only at hSw); go_simp; done) | (intro w hSw; (try dsimp only at hSw); go_simp; with_reducible rfl)
                  case' TZr9 => try simp only [Act.put, List.setIfInBounds_toArray, List.set_cons_zero, List.set_cons_succ]
                  refine wpAnyH_ready (rs := [11]) (by kernel_rfl) (by simp) ?_
                  refine AllReadyH.consL rfl (fun K hK => ?_) AllReadyH.nil
                  go_simp
                  obtain ⟨W2, hW2⟩ : ∃ W2, ((w4.setCell ⟨wr.heap.size, 0, none⟩ (.bool true)).setCell ⟨wr.heap.size, 1, none⟩ (.slice LA l.length lc)).setCell ⟨wr.heap.size, 2, none⟩ (.slice A4 cs'.length d4) = W2 := ⟨_, rfl⟩
                  have hb2 : ∀ b, b ≠ wr.heap.size → W2.heap[b]? = w4.heap[b]? := fun b hb => by rw [← hW2, Below.heap_setCell _ _ _ _ (by simpa using hb), Below.heap_setCell _ _ _ _ (by simpa using hb), Below.heap_setCell _ _ _ _ (by simpa using hb)]
                  have hbb : ∀ (p : Addr) (u : Value), wr.cell? p = some u → w4.cell? p = some u → W2.cell? p = some u := fun p u h1 h2 => (World.cell?_of_block (hb2 _ (by have := World.block_lt_of_cell? _ _ h1; omega))).trans h2
                  have c0 : W2.cell? ⟨wr.heap.size, 0, none⟩ = some (.bool true) := by rw [← hW2]; simp [World.cell?_setCell_same, World.cell?_setCell_other, z0]
                  have c1 : W2.cell? ⟨wr.heap.size, 1, none⟩ = some (.slice LA l.length lc) := by rw [← hW2]; simp [World.cell?_setCell_same, World.cell?_setCell_other, z1]
                  have c2 : W2.cell? ⟨wr.heap.size, 2, none⟩ = some (.slice A4 cs'.length d4) := by rw [← hW2]; simp [World.cell?_setCell_same, World.cell?_setCell_other, z2]
                  have hgr0 : wr.grownBy w4 (some bm') := grownBy_same (HE1.out.grownBy _) HGR.out
                  have hgr2 : wr.grownBy W2 (some bm') := by rw [← hW2]; exact grown_set (grown_set (grown_set hgr0 (Nat.le_refl _) _) (Nat.le_refl _) _) (Nat.le_refl _) _
                  have hg2 : w4.grownBy W2 (some wr.heap.size) := by rw [← hW2]; exact grownBy_same (grownBy_same (grownBy_set _ _ _) (grownBy_set _ _ _)) (grownBy_set _ _ _)
                  have hm2 : Mem W2 mb' bm' (regsOf l) M' (nb + 4 * k + 4) := MemAt.set hb.out.mem HM4.out (fun b hb hne => hgr2.block b hb (by simpa using hne)) hg2 (by omega)
                  have hc2 := (HC4.out.keep (w' := W2) (fun b hb _ => hb2 b (by have := HSZZ.out; omega))).mono (S' := fun b => b ≠ g ∨ wr.heap.size ≤ b) (fun b hb _ => by rcases hb with h | h; exact .inl h.1; exact .inr (by have := HSZZ.out; omega))
                  have HAF : Hid (After wr W2 mb' bm' g wr.heap.size l LA lc A4 d4 cs' M' (nb + 4 * k + 4)) := hid ⟨hgr2, hm2, hc2, c0, c1, c2⟩
                  rw [hW2]
                  have ob := hb.out.b0
                  have o0' := hbb _ _ hb.out.b0 b0
                  have o1' := hbb _ _ hb.out.b1 b1
                  have o2' := hbb _ _ hb.out.b2 b2
                  obtain ⟨b9, off9, hA9, u0, u1, u2, u3, -⟩ := Sl_op_at (HO2.out.ext hx.out) HOK2.out
                  cases hA9
                  have p0 := hbb _ _ u0 s0
                  have p1 := hbb _ _ u1 s1
                  have p2 := hbb _ _ u2 s2
                  have p3 := hbb _ _ u3 s3
                  clear hW2 hb2 hbb c0 c1 c2 hgr0 hgr2 hg2 hm2 hc2 ob u0 u1 u2 u3
                  refine hK.out _ _ ⟨⟨o0', o1', o2'⟩, p0, p1, p2, p3⟩ (fun hSTZ2 => ?_)
                  clear hK K
                  try simp only [Act.put, List.setIfInBounds_toArray, List.set_cons_zero, List.set_cons_succ]
                  refine wpAnyH_takeL (i := 12) (v := ?TZv12) rfl (by kernel_rfl) (by kernel_rfl) (by kernel_rfl) (fun _ _ _ h => h) (Or.inl ⟨by rfl, ?TZy12⟩) (by assumption) ?TZr12
                  case TZy12 => first | (intro w hSw; (try dsimp only at hSw); go_simp; done) | (intro w hSw; (try dsimp only at hSw); go_simp; with_reducible rfl)
                  case' TZr12 => try simp only [Act.put, List.setIfInBounds_toArray, List.set_cons_zero, List.set_cons_succ]
                  refine wpAnyH_done (by kernel_rfl) ?_ _
                  go_wp2_with fail
                  go_meet
                  exact ⟨rfl, wr.heap.size, A4, d4, rfl, HAF⟩
              case rest =>
                obtain ⟨rfl, gn, A4, d4, rfl, haf⟩ := hcut
                have e0 := haf.out.c0
                have e1 := haf.out.c1
                have e2 := haf.out.c2
                have hown := hb.out.mem
                obtain ⟨_, _, DD, -, -, -, hown, -⟩ := hown
                have q0 := cell_map hown haf.out.grow b0
                have q1 := cell_map hown haf.out.grow b1
                have q2 := cell_map hown haf.out.grow b2
                have hfz : ∀ j, wc.frozen? ⟨g, j, none⟩ = false := fun j => (World.frozen?_of_block (haf.out.grow.block g hlt (by have := HG.out; simp; omega))).trans (hb.out.fz j)
                have f0 := hfz 0
                have f1 := hfz 1
                have f2 := hfz 2
                have HXC := hid (hx.out.grown haf.out.grow (fun j hj => by cases hj; exact hbmw))
                have hgw : w.heap.size ≤ g := by rw [← HG.out]; exact H6.out.size
                clear hown hfz b0 b1 b2 s0 s1 s2 s3
                go_wp2
                go_roundw
                case rel => exact ⟨k + 1, A4, d4, cs', M', by omega, by go_num, hid (hb.out.next HG.out.symm hbmlt6 HMC6.out haf.out.grow haf.out.mem haf.out.cells HOK.out), hid (((HXC.out.setCell hgw _).setCell hgw _).setCell hgw _)⟩
                case measure => simp [intOf]; omega
            · obtain rfl : m2 = k := by omega
              have hmo := MemAt.carry HMO6.out HMC6.out (fun e => hbne e.symm) (fun b hb' hne => hb.out.old b hb' hne)
              have hmc := hb.out.mem
              obtain ⟨nc, hnc⟩ : ∃ nc, nb + 4 * m2 = nc := ⟨_, rfl⟩
              rw [hnc] at hmc
              have HNO := hid hmo
              have HNC := hid hmc
              clear hnc hmo hmc hb b0 b1 b2
              go_wp2_with fail
              refine (changes_any wr mb' bm' nc _ _ HNC.out).mono ?_
              rintro e w8 ⟨hx8, v8, C8, rfl, hs8, hp8, hm8⟩
              obtain ⟨cA8, cC8, rfl, -, -⟩ := hs8.form
              have HX8 := hid (hx.out.trans hx8)
              have HS8 := hid hs8
              have HP8 := hid hp8
              have HM8 := hid hm8
              have HNO8 := hid (HNO.out.ext hx8)
              have HNC8 := hid (HNC.out.ext hx8)
              clear hx8 hs8 hp8 hm8 hx HNO HNC
              go_wp2
              go_loopw [19] (fun i wr => ∃ (k : Nat) (Mx : Nat → Option Nat), k ≤ m ∧ i = .int .i64 k ∧ Hid (Ext w wr) ∧ Hid (Mem wr mb bm (regsOf l) Mx (nb + 4 * k)) ∧ Hid (Mem wr mb' bm' (regsOf l) Mk nc) ∧ Hid (Sl u32R wr All (.slice cA8 C8.length cC8) C8)) (fun i _ => m - (intOf i).toNat)
              case atStart => exact ⟨0, M, by omega, rfl, HX8, HNO8, HNC8, HS8⟩
              case round =>
                clear HX8 HNO8 HNC8 HS8
                obtain ⟨k, Mx, hk, rfl, he, hmo, hmc, hsl⟩ := hrel
                by_cases h1 : k < m
                · obtain ⟨o, ho⟩ : ∃ o, ops[k]? = some o := ⟨_, List.getElem?_eq_getElem (by have := HLM.out; omega)⟩
                  obtain ⟨b, off, rfl, -, s1, s2, s3, hq1, hq2, ha, hx⟩ := Sl_op_at HO.out ho
                  have s2 := he.out.cell s2
                  have s3 := he.out.cell s3
                  have HOK := hid ho; clear ho
                  have hk0 : (0 : Int) ≤ (k : Int) := by omega
                  have hk1 : (k : Int) < (m : Int) := by omega
                  clear s1
                  go_wp2_with fail
                  refine wp_region_held_drew (S := (fun w' => w'.cell? ⟨b, off + k * 4 + 2, none⟩ = some (.int .u32 o.addr) ∧ w'.cell? ⟨b, off + k * 4 + 3, none⟩ = some (.int .u32 o.num))) (by kernel_rfl) ⟨s2, s3⟩ (fun hSV0 => ?_)
                  refine wpAnyH_takeL (i := 0) (v := ?Vv0) rfl (by kernel_rfl) (by kernel_rfl) (by kernel_rfl) (fun _ _ _ h => h) (Or.inl ⟨by rfl, ?Vy0⟩) (by assumption) ?Vr0
                  case Vy0 => first | (intro w hSw; (try dsimp only at hSw); go_simp; done) | (intro w hSw; (try dsimp only at hSw); go_simp; with_reducible rfl)
                  case' Vr0 => try simp only [Act.put, List.setIfInBounds_toArray, List.set_cons_zero, List.set_cons_succ]
                  refine wpAnyH_takeL (i := 1) (v := ?Vv1) rfl (by kernel_rfl) (by kernel_rfl) (by kernel_rfl) (fun _ _ _ h => h) (Or.inl ⟨by rfl, ?Vy1⟩) (by assumption) ?Vr1
                  case Vy1 => first | (intro w hSw; (try dsimp only at hSw); go_simp; done) | (intro w hSw; (try dsimp only at hSw); go_simp; with_reducible rfl)
                  case' Vr1 => try simp only [Act.put, List.setIfInBounds_toArray, List.set_cons_zero, List.set_cons_succ]
                  refine wpAnyH_takeL (i := 2) (v := ?Vv2) rfl (by kernel_rfl) (by kernel_rfl) (by kernel_rfl) (fun _ _ _ h => h) (Or.inl ⟨by rfl, ?Vy2⟩) (by assumption) ?Vr2
                  case Vy2 => first | (intro w hSw; (try dsimp only at hSw); go_simp; done) | (intro w hSw; (try dsimp only at hSw); go_simp; with_reducible rfl)
                  case' Vr2 => try simp only [Act.put, List.setIfInBounds_toArray, List.set_cons_zero, List.set_cons_succ]
                  refine wpAnyH_takeL (i := 3) (v := ?Vv3) rfl (by kernel_rfl) (by kernel_rfl) (by kernel_rfl) (fun _ _ _ h => h) (Or.inl ⟨by rfl, ?Vy3⟩) (by assumption) ?Vr3
                  case Vy3 => first | (intro w hSw; (try dsimp only at hSw); go_simp; done) | (intro w hSw; (try dsimp only at hSw); go_simp; with_reducible rfl)
                  case' Vr3 => try simp only [Act.put, List.setIfInBounds_toArray, List.set_cons_zero, List.set_cons_succ]
                  refine wpAnyH_takeL (i := 4) (v := ?Vv4) rfl (by kernel_rfl) (by kernel_rfl) (by kernel_rfl) (fun _ _ _ h => h) (Or.inl ⟨by rfl, ?Vy4⟩) (by assumption) ?Vr4
                  case Vy4 => first | (intro w hSw; (try dsimp only at hSw); go_simp; done) | (intro w hSw; (try dsimp only at hSw); go_simp; with_reducible rfl)
                  case' Vr4 => try simp only [Act.put, List.setIfInBounds_toArray, List.set_cons_zero, List.set_cons_succ]
                  refine wpAnyH_takeL (i := 5) (v := ?Vv5) rfl (by kernel_rfl) (by kernel_rfl) (by kernel_rfl) (fun _ _ _ h => h) (Or.inl ⟨by rfl, ?Vy5⟩) (by assumption) ?Vr5
                  case Vy5 => first | (intro w hSw; (try dsimp only at hSw); go_simp; done) | (intro w hSw; (try dsimp only at hSw); go_simp; with_reducible rfl)
                  case' Vr5 => try simp only [Act.put, List.setIfInBounds_toArray, List.set_cons_zero, List.set_cons_succ]
                  refine wpAnyH_takeL (i := 6) (v := ?Vv6) rfl (by kernel_rfl) (by kernel_rfl) (by kernel_rfl) (fun _ _ _ h => h) (Or.inl ⟨by rfl, ?Vy6⟩) (by assumption) ?Vr6
                  case Vy6 => first | (intro w hSw; (try dsimp only at hSw); go_simp; done) | (intro w hSw; (try dsimp only at hSw); go_simp; with_reducible rfl)
                  case' Vr6 => try simp only [Act.put, List.setIfInBounds_toArray, List.set_cons_zero, List.set_cons_succ]
                  refine wpAnyH_takeL (i := 7) (v := ?Vv7) rfl (by kernel_rfl) (by kernel_rfl) (by kernel_rfl) (fun _ _ _ h => h) (Or.inl ⟨by rfl, ?Vy7⟩) (by assumption) ?Vr7
                  case Vy7 => first | (intro w hSw; (try dsimp only at hSw); go_simp; done) | (intro w hSw; (try dsimp only at hSw); go_simp; with_reducible rfl)
                  case' Vr7 => try simp only [Act.put, List.setIfInBounds_toArray, List.set_cons_zero, List.set_cons_succ]
                  refine wpAnyH_takeL (i := 8) (v := ?Vv8) rfl (by kernel_rfl) (by kernel_rfl) (by kernel_rfl) (fun _ _ _ h => h) (Or.inl ⟨by rfl, ?Vy8⟩) (by assumption) ?Vr8
                  case Vy8 => first | (intro w hSw; (try dsimp only at hSw); go_simp; done) | (intro w hSw; (try dsimp only at hSw); go_simp; with_reducible rfl)
                  case' Vr8 => try simp only [Act.put, List.setIfInBounds_toArray, List.set_cons_zero, List.set_cons_succ]
                  refine wpAnyH_takeL (i := 9) (v := ?Vv9) rfl (by kernel_rfl) (by kernel_rfl) (by kernel_rfl) (fun _ _ _ h => h) (Or.inl ⟨by rfl, ?Vy9⟩) (by assumption) ?Vr9
                  case Vy9 => first | (intro w hSw; (try dsimp only at hSw); go_simp; done) | (intro w hSw; (try dsimp only at hSw); go_simp; with_reducible rfl)
                  case' Vr9 => try simp only [Act.put, List.setIfInBounds_toArray, List.set_cons_zero, List.set_cons_succ]
                  refine wpAnyH_takeL (i := 10) (v := ?Vv10) rfl (by kernel_rfl) (by kernel_rfl) (by kernel_rfl) (fun _ _ _ h => h) (Or.inl ⟨by rfl, ?Vy10⟩) (by assumption) ?Vr10
                  case Vy10 => first | (intro w hSw; (try dsimp only at hSw); go_simp; done) | (intro w hSw; (try dsimp only at hSw); go_simp; with_reducible rfl)
                  case' Vr10 => try simp only [Act.put, List.setIfInBounds_toArray, List.set_cons_zero, List.set_cons_succ]
                  refine wpAnyH_takeL (i := 11) (v := ?Vv11) rfl (by kernel_rfl) (by kernel_rfl) (by kernel_rfl) (fun _ _ _ h => h) (Or.inl ⟨by rfl, ?Vy11⟩) (by assumption) ?Vr11
                  case Vy11 => first | (intro w hSw; (try dsimp only at hSw); go_simp; done) | (intro w hSw; (try dsimp only at hSw); go_simp; with_reducible rfl)
                  case' Vr11 => try simp only [Act.put, List.setIfInBounds_toArray, List.set_cons_zero, List.set_cons_succ]
                  refine wpAnyH_ready (rs := [12]) (by kernel_rfl) (by simp) ?_
                  refine AllReadyH.consL rfl (fun K hK => ?_) AllReadyH.nil
                  go_simp
                  go_at_call 14
                  rw [IntKind.wrap_u32, show (((o.num : Nat) : Int) + 1) % 4294967296 = (((o.num + 1) % 4294967296 : Nat) : Int) by omega]
                  refine (store_any _ mb bm (nb + 4 * k) _ _ (hmo.out.ext ((Ext.refl _).drew)) (by omega) o.addr ha 1 (by omega) (by omega) ((o.num + 1) % 4294967296)).mono ?_
                  rintro e w4 ⟨rfl, hm4, hg4⟩
                  have hg4 := grownBy_drew hg4
                  have hown := hmo.out
                  obtain ⟨_, _, DD, -, -, -, hown, -⟩ := hown
                  have HE4 := hid (he.out.grown hg4 (fun j hj => by cases hj; exact hbm))
                  have HM4 := hid hm4
                  have HC4 := hid (MemAt.far hmc.out hmo.out hbne hg4)
                  have HS4 := hid (hsl.out.keep fun b _ hb => keep_map hown hg4 hb)
                  have s2 := cell_map hown hg4 s2
                  have s3 := cell_map hown hg4 s3
                  clear hm4 hg4 hown
                  refine hK.out _ _ ⟨s2, s3⟩ (fun hSV1 => ?_)
                  clear hK K
                  try simp only [Act.put, List.setIfInBounds_toArray, List.set_cons_zero, List.set_cons_succ]
                  refine wpAnyH_done (by kernel_rfl) ?_ _
                  go_wp2
                  go_roundw
                  case rel => exact ⟨k + 1, _, by omega, by go_num, HE4, HM4, HC4, HS4⟩
                  case measure => simp [intOf]; omega
                · obtain rfl : m = k := by omega
                  go_wp2_with fail
                  refine (changes_any wr mb' bm' nc _ _ hmc.out).mono ?_
                  rintro e w9 ⟨hx9, v9, C9, rfl, hs9, hp9, hm9⟩
                  have hCC : C9 = C8 := asc_ext hp9 HP8.out (fun a => by rw [hm9, HM8.out])
                  subst hCC
                  obtain ⟨cA9, cC9, rfl, -, -⟩ := hs9.form
                  have HX9 := hid hx9
                  have HS9 := hid hs9
                  clear hx9 hs9 hp9 hm9
                  go_wp2_with fail
                  refine (words_any w9 w9 (Ext.refl _) cA9 cA8 C9.length C9.length cC9 cC8 C9 C9 HS9.out (hsl.out.ext HX9.out)).mono ?_
                  rintro e wa ⟨rfl, hxa⟩
                  rw [show decide (C9 = C9) = true by simp]
                  have HXA := hid (he.out.trans (HX9.out.trans hxa))
                  clear hxa
                  go_wp2_with fail
                  refine (example_any _).mono ?_
                  rintro e wz ⟨rfl, hx⟩
                  have HX := hid (HE.out.trans (HXA.out.trans hx)); clear hx
                  go_wp2
                  go_ret
                  exact ⟨rfl, HX.out⟩
end Go.Proofs.Ytjfdbfbdkjfgpaa
