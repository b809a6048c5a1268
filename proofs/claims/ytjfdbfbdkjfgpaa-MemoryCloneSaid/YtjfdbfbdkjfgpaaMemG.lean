/- The walks of the package 'memory': Changes. -/
import Derived.Test.YtjfdbfbdkjfgpaaMemF
import Derived.Test.YtjfdbfbdkjfgpaaSrtH
import Derived.Maps.RangeWalk
namespace Go.Proofs.Ytjfdbfbdkjfgpaa
open Go.RowKit Go.Deco Go.Maps

def changedAt (regs : List Reg) (M : Nat → Option Nat) (a : Nat) : Bool :=
  match findReg regs a with
  | none => false
  | some r => match M a with
    | none => false
    | some c => r.data.getD (a - r.from_) 0 != c

/-- A list of numbers, ascending, that holds just those of which p is so. -/
def ListPost (w : World) (p : Nat → Bool) (e : Ending) (w' : World) : Prop :=
  Ext w w' ∧ ∃ v L, e = .returned v ∧ Sl u32R w' All v L ∧ L.Pairwise (· < ·) ∧ ∀ a, a ∈ L ↔ p a = true

theorem info_u32 : (Try.prog.info? 23).map (fun i => (i.zero, i.size, i.bytes)) = some (some (.int .u32 0), 1, 4) := by kernel_rfl

theorem sameKey_u32 (a b : Nat) : (Lit.int .u32 (a : Int)).sameKey (.int .u32 (b : Int)) = decide (a = b) := by
  simp [Lit.sameKey]
  omega

theorem own_num_kept {w w' : World} {T : Nat → Prop} {kd : IntKind} {bd base : Nat} {e : TypeId} {v : Value} {l : List Nat} {row : Option Nat} (h : OwnS (numR kd bd) w base e T v l) (hg : w.grownBy w' row) (hne : v.ownBlock = none ∨ v.ownBlock ≠ row) : OwnS (numR kd bd) w' base e T v l := by
  obtain ⟨xs, ho, hc⟩ := h
  exact ⟨xs, ho.kept hg hne, chunks_num.2 (chunks_num.1 hc)⟩

/-- The loop of Changes under way. -/
structure ChgInv (w : World) (bm n : Nat) (D : DataW Unit) (regs : List Reg) (M : Nat → Option Nat) (wr : World) (v : Value) (L : List Nat) : Prop where
  rng : ∃ left cnt, wr.ranges Try.prog 23 (plainElem (H := Unit) Try.prog 5) bm w.heap.size n D left cnt ∧ (∀ z, left z = true → Maps.has D z = true) ∧
    ∀ a : Nat, a ∈ L ↔ changedAt regs M a = true ∧ left (.int .u32 (a : Int)) = false
  own : Own u32R wr (w.heap.size + 1) 23 v L
  nod : L.Nodup
  ext : Ext w wr

set_option maxRecDepth 100000 in
set_option maxHeartbeats 1000000 in
theorem changes_any (w : World) (mb bm n : Nat) (regs : List Reg) (M : Nat → Option Nat) (hm : Mem w mb bm regs M n) :
    Calls Try.prog 15 #[.pointer (some ⟨mb, 0, none⟩)] w (ListPost w (changedAt regs M)) := by
  have HM := hid hm
  obtain ⟨rA, rc, D, q0, q1, q2, q3, q4⟩ := hm
  have HQ := hid q3; clear q3
  have HMD := hid q4; clear q4
  obtain ⟨i0, hi, hz0, hz1, hz2⟩ := info_parts info_u32
  have HI := hid hi; clear hi
  have hmlt := World.block_lt_of_cell? _ _ q0
  clear q0 q2
  go_enter Try.func15, Try.ntmps15
  go_wp2_with fail
  refine (made_any _ mb bm n regs M HM.out).mono ?_
  rintro e w' ⟨rfl, rfl⟩
  go_wp2_with (first
    | (at_range; refine wpList_range_own _ rfl _ 61 rfl 23 5 law32 Try.underlying61 _ bm n D rfl HQ.out ?_; intro w0 hrg0 hg0 hs0)
    | fail)
  have hx0 : Ext w w0 := ⟨hg0.os, hg0.tape, hg0.output, hg0.size, fun k hk => hg0.block k hk (by simp)⟩
  have HX0 := hid hx0
  have HR0 := hid hrg0
  clear hx0 hrg0 hg0
  go_frame
  go_loopw [3] (fun v wr => ∃ (A : Option Addr) (c : Nat) (L : List Nat), v = .slice A L.length c ∧ Hid (ChgInv w bm n D regs M wr (.slice A L.length c) L))
    (fun _ wr => wr.rangeLeft bm w.heap.size)
  case atStart =>
    refine ⟨none, 0, [], rfl, hid ⟨⟨_, _, HR0.out, fun z hz => hz, fun a => ?_⟩, OwnS.nil, List.nodup_nil, HX0.out⟩⟩
    simp only [List.not_mem_nil, false_iff]
    rintro ⟨h1, h2⟩
    unfold changedAt at h1
    rw [HMD.out, mapOf_none h2] at h1
    split at h1 <;> simp at h1
  case round =>
    obtain ⟨A, c, L, rfl, hinv⟩ := hrel
    obtain ⟨left, cnt, hrg, hsub, hmem⟩ := hinv.out.rng
    have HMEM := hid hmem; clear hmem
    have HSUB := hid hsub; clear hsub
    go_wp2_with (first
      | (at_next; refine wpList_next_ranges_ii _ rfl _ rfl 23 5 .u32 .u8 law32 Try.underlying23 Try.underlying5 bm w.heap.size n _ _ _ rfl hrg ?_ ?_)
      | fail)
    · intro _ hl0
      have HL0 := hid hl0; clear hl0
      have hlen : L.length ≤ 4294967296 := nodup_length hinv.out.nod hinv.out.own.num_lt
      clear hrg
      go_wp2_with fail
      refine (sort_own hinv.out.own (by omega)).mono ?_
      rintro e w2 ⟨rfl, hown2, hg2⟩
      have hx2 : Ext w w2 := hinv.out.ext.grown hg2 (fun j hj => by have := (hinv.out.own.block j hj).1; omega)
      have HX2 := hid hx2
      have HO2 := hid hown2
      clear hx2 hown2 hg2 hlen
      go_wp2
      go_ret
      refine ⟨HX2.out, .slice A L.length c, sorted32 L, rfl, HO2.out.sl, sorted32_lt hinv.out.nod, fun a => ?_⟩
      rw [sorted32_mem, HMEM.out, HL0.out]
      simp
    · intro x0 c0 w1 cnt1 hwx hwc hlx hat hrg1 hlt hg1 hs1 hen
      obtain ⟨hx1, hx2⟩ := wf32 hwx
      obtain ⟨hc1, hc2⟩ := wf8 hwc
      obtain ⟨a, rfl⟩ : ∃ a : Nat, x0 = a := ⟨x0.toNat, by omega⟩
      obtain ⟨y, rfl⟩ : ∃ y : Nat, c0 = y := ⟨c0.toNat, by omega⟩
      have hMa : M a = some y := by
        rw [HMD.out, mapOf_some (hat _) (HSUB.out _ hlx)]
        simp
      have hlen : L.length ≤ 4294967296 := nodup_length hinv.out.nod hinv.out.own.num_lt
      have hrl : w1.rangeLeft bm w.heap.size < wr.rangeLeft bm w.heap.size := by rw [hrg1.left_eq, hrg.left_eq]; exact hlt
      have hx3 : Ext w w1 := hinv.out.ext.grown hg1 (fun j hj => by cases hj; exact Nat.le_refl _)
      have hown1 := own_num_kept hinv.out.own hg1 (.inr fun h => by have := (hinv.out.own.block _ h).1; omega)
      have HLX := hid hlx
      have HMA := hid hMa
      have HRL := hid hrl
      have HX3 := hid hx3
      have HR1 := hid hrg1
      have HO1 := hid hown1
      clear hrg hwx hwc hat hlx hMa hrl hx3 hrg1 hown1 hlt hg1
      have same : ∀ wE, Ext w1 wE → changedAt regs M a = false → Hid (ChgInv w bm n D regs M wE (.slice A L.length c) L) ∧ wE.rangeLeft bm w.heap.size < wr.rangeLeft bm w.heap.size := by
        intro wE hE hch
        have hk := HR1.out.kept (hE.grownBy none) (by simp) (by simp)
        refine ⟨hid ⟨⟨_, _, hk, fun z hz => HSUB.out z (by simp only [Bool.and_eq_true] at hz; exact hz.1), fun b => ?_⟩, HO1.out.ext hE, hinv.out.nod, HX3.out.trans hE⟩, ?_⟩
        · rw [HMEM.out]
          simp only [sameKey_u32]
          constructor
          · rintro ⟨h1, h2⟩
            exact ⟨h1, by rw [h2]; rfl⟩
          · rintro ⟨h1, h2⟩
            refine ⟨h1, ?_⟩
            by_cases hb : b = a
            · subst hb
              rw [hch] at h1
              cases h1
            · simpa [hb] using h2
        · rw [hk.left_eq, ← HR1.out.left_eq]
          exact HRL.out
      have SAME := hid same
      clear same
      go_wp2_with fail
      refine (find_any w w1 HX3.out mb bm n regs M HM.out a (by omega)).mono ?_
      rintro e w2 ⟨hx4, hp⟩
      have HX4 := hid hx4; clear hx4
      obtain ⟨o, ho⟩ : ∃ o, findReg regs a = o := ⟨_, rfl⟩
      rw [ho] at hp
      cases o with
      | none =>
        subst hp
        have HCH := hid (show changedAt regs M a = false by rw [changedAt, ho])
        clear ho
        go_wp2
        go_roundw
        case rel => exact ⟨A, c, L, rfl, (SAME.out _ (HX4.out.alloc _) HCH.out).1⟩
        case measure => exact (SAME.out _ (HX4.out.alloc _) HCH.out).2
      | some r =>
        obtain ⟨dA, dc, rfl, hd, hs1, hs2⟩ := hp
        obtain ⟨hr1, hr2⟩ := findReg_has ho
        obtain ⟨d, hda⟩ : ∃ d, a = r.from_ + d := ⟨a - r.from_, by omega⟩
        obtain ⟨y0, hy0⟩ : ∃ y0, r.data[d]? = some y0 := ⟨_, List.getElem?_eq_getElem (by omega)⟩
        obtain ⟨gb, off, rfl, cc, hlt⟩ := hd.num_at hy0
        have cc := (HX3.out.trans HX4.out).cell cc
        have hch : changedAt regs M a = (y0 != y) := by
          rw [changedAt, ho]
          simp only [HMA.out]
          rw [show a - r.from_ = d by omega, List.getD_eq_getElem?_getD, hy0]
          rfl
        have HCH := hid hch
        clear hch ho hd hy0
        have hw1 : IntKind.u64.wrap (a : Int) = (a : Int) := IntWalk.u64_in _ (by omega)
        have hw2 : IntKind.u64.wrap ((a : Int) - (r.from_ : Int)) = (d : Int) := by rw [IntWalk.u64_in _ (by omega)]; omega
        have hw3 : (a : Int) - (r.from_ : Int) = (d : Int) := by omega
        have hcl := World.block_lt_of_cell? _ _ cc
        clear hda
        simp only at hcl
        by_cases hyy : y0 = y
        · have hne : ((y0 : Int) != (y : Int)) = false := by simp; omega
          go_wp2_with fail
          go_roundw
          case rel => exact ⟨A, c, L, rfl, (SAME.out _ (HX4.out.alloc _) (by rw [HCH.out]; simpa using hyy)).1⟩
          case measure => exact (SAME.out _ (HX4.out.alloc _) (by rw [HCH.out]; simpa using hyy)).2
        · have hne : ((y0 : Int) != (y : Int)) = true := by simp; omega
          have hna : ¬ (a ∈ L) := fun h => by have := ((HMEM.out _).1 h).2; rw [HLX.out] at this; cases this
          have hE4 : Ext w1 (w2.alloc (Obj.cells #[Value.int IntKind.u64 ↑r.from_, Value.slice (some ⟨gb, off, none⟩) r.data.length dc, Value.bool r.wr, Value.bool r.ex] 74)) := HX4.out.alloc _
          have hown4 := HO1.out.ext hE4
          go_wp2_with (at_builtin; refine wpList_app1 rfl (.tmp 41) (.tmp 43) 35 rfl (w.heap.size + 1) 23 i0 _ 1 4 Try.underlying35 HI.out hz0 hz1 hz2 rfl u32R rfl _ L rfl hown4 a (by simp only [World.size_alloc]; rfl) ⟨rfl, by omega⟩ (by omega) (by omega) (by have := HX3.out.size; have := HX4.out.size; simp; omega) ?_; intro A5 c5 w5 hown5 hg5; go_frame)
          have hob := hown4.block
          have hne1 : some bm ≠ (Value.slice A L.length c).ownBlock := fun h => by have := (hob _ h.symm).1; have := HQ.out.lt; omega
          have hne2 : some w.heap.size ≠ (Value.slice A L.length c).ownBlock := fun h => by have := (hob _ h.symm).1; omega
          have hE5 := hE4.alloc (Obj.cells #[Value.int IntKind.u32 (a : Int)] 23)
          have hk := (HR1.out.kept (hE5.grownBy none) (by simp) (by simp)).kept hg5 hne1 hne2
          have hx5 : Ext w w5 := (HX3.out.trans hE5).grown hg5 (fun j hj => by have := (hob j hj).1; omega)
          refine ⟨⟨A5, c5, L ++ [a], by simp, hid ⟨⟨_, _, hk, fun z hz => HSUB.out z (by simp only [Bool.and_eq_true] at hz; exact hz.1), fun b => ?_⟩, by simpa using hown5, ?_, hx5⟩⟩, ?_⟩
          · rw [List.mem_append, HMEM.out, List.mem_singleton]
            simp only [sameKey_u32]
            by_cases hb : b = a
            · subst hb
              simp [HCH.out, HLX.out]
              exact hyy
            · simp [hb]
          · exact List.nodup_append.2 ⟨hinv.out.nod, by simp, fun x hx y hy => by
              rw [List.mem_singleton] at hy
              subst hy
              intro h
              subst h
              exact hna hx⟩
          · rw [hk.left_eq, ← HR1.out.left_eq]
            exact HRL.out
end Go.Proofs.Ytjfdbfbdkjfgpaa
