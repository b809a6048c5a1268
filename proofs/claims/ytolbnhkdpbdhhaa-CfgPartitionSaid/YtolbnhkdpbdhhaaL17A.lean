/- Chapter 17: the example, and which code is large. law17.blocks: blocks converted. -/
import Derived.Test.YtolbnhkdpbdhhaaBkC
import Derived.Test.YtolbnhkdpbdhhaaLit
import Derived.Test.YtolbnhkdpbdhhaaReg
import Derived.Test.YtolbnhkdpbdhhaaSplit
namespace Go.Proofs.Ytolbnhkdpbdhhaa
open Go.RowKit Go.Deco
set_option linter.unusedSimpArgs false
set_option linter.unusedVariables false
set_option maxRecDepth 100000

def OneBool (w : World) (b : Bool) (e : Ending) (w' : World) : Prop := e = .returned (.bool b) ∧ Ext w w'
def exIns : List In := [⟨4096, 1, 6, 1, 0, 0, 0, 0, 3⟩, ⟨4099, 4096, 20, 1, 0, 1, 0, 0, 2⟩, ⟨4101, 0, 1, 0, 0, 0, 0, 0, 1⟩]
theorem new2 (w : World) (o1 o2 : Obj) (cs : Array Value) (t : TypeId) (j : Nat) (u : Value) (h : cs[j]? = some u) : (((w.alloc o1).alloc o2).alloc (.cells cs t)).cell? ⟨w.heap.size + 1 + 1, 0 + j, none⟩ = some u := by
  have e : w.heap.size + 1 + 1 = ((w.alloc o1).alloc o2).heap.size := by simp
  rw [e, Nat.zero_add, World.cell?_alloc_new]
  exact h
theorem exa_any (w : World) : Calls Try.prog 26 #[] w fun e w' => Ext w w' ∧ ∃ A E, e = .returned (.agg #[.slice A 3 3, .slice E 1 1, .slice none 0 0, .slice none 0 0]) ∧ Sl insR w' All (.slice A 3 3) exIns ∧ Sl u32R w' All (.slice E 1 1) [4096] := by
  go_enter Try.func26, Try.ntmps26
  go_wp2
  refine bodyPost_ret (v := .agg #[.slice (some ⟨w.heap.size + 1 + 1, 0, none⟩) 3 3, .slice (some ⟨w.heap.size + 1, 0, none⟩) 1 1, .slice none 0 0, .slice none 0 0]) (by simp [results, Try.results26, go_sem, World.cell?_setCell_same, World.cell?_setCell_other]) rfl ?_
  refine ⟨(((Ext.refl w).alloc _).alloc _).alloc _, _, _, rfl, ?_, ?_⟩
  · refine sl_of_chunks (R := insR) (l := exIns) (c := 3) trivial (xs := exIns.flatMap inCells) ?_ (fun j u hj => ?_) (by simp [exIns]) (by decide)
    · refine ⟨_, _, rfl, ⟨rfl, ?_⟩, _, _, rfl, ⟨rfl, ?_⟩, _, _, rfl, ⟨rfl, ?_⟩, rfl⟩ <;> simp [InOk, i64ok]
    · exact new2 w _ _ _ _ j u (by simpa [exIns, inCells] using hj)
  · have h := sl_lit (w.alloc (.cells #[.slice (some ⟨w.heap.size + 1 + 1, 0, none⟩) 3 3, .slice (some ⟨w.heap.size + 1, 0, none⟩) 1 1, .slice none 0 0, .slice none 0 0] 25)) [4096] (by decide) (by decide) 39
    have e : (w.alloc (.cells #[.slice (some ⟨w.heap.size + 1 + 1, 0, none⟩) 3 3, .slice (some ⟨w.heap.size + 1, 0, none⟩) 1 1, .slice none 0 0, .slice none 0 0] 25)).heap.size = w.heap.size + 1 := by simp
    rw [e] at h
    exact h.ext ((Ext.refl _).alloc _)
theorem ex17 : blocksR exIns [4096] [] [] = ([⟨4096, 4101, [⟨4096, 1, 6, 1, 0, 0, 0, 0, 3⟩, ⟨4099, 4096, 20, 1, 0, 1, 0, 0, 2⟩], [4096, 4101], []⟩, ⟨4101, 4102, [⟨4101, 0, 1, 0, 0, 0, 0, 0, 1⟩], [], []⟩], 0) := by
  kernel_rfl

def largeB (n ne nt : Nat) (tabs : List (List Nat)) : Bool := decide (600 < n) || (decide (600 < ne) || (decide (20 < nt) || tabs.any fun t => decide (100 < t.length)))
theorem largeB_small {n ne nt : Nat} {tabs : List (List Nat)} (h : largeB n ne nt tabs = false) : n ≤ 600 ∧ ne ≤ 600 ∧ nt ≤ 20 ∧ ∀ t ∈ tabs, t.length ≤ 100 := by
  simp [largeB] at h
  exact ⟨by omega, by omega, by omega, fun t ht => by have := h.2.2.2 t ht; omega⟩
set_option maxHeartbeats 4000000 in
theorem large_any (w : World) (A E U B T : Option Addr) (n c ne ce nu cu nb cb nt ct : Nat) (tabs : List (List Nat)) (ht : Sl u32sR w All (.slice T nt ct) tabs) :
    Calls Try.prog 9 #[.agg #[.slice A n c, .slice E ne ce, .slice U nu cu, .slice B nb cb], .slice T nt ct] w fun e w' => e = .returned (.bool (largeB n ne nt tabs)) ∧ Ext w w' := by
  obtain ⟨W0, hW0⟩ : ∃ W0, w.alloc (.cells #[.slice A n c, .slice E ne ce, .slice U nu cu, .slice B nb cb] 25) = W0 := ⟨_, rfl⟩
  have hE : Ext w W0 := by rw [← hW0]; exact (Ext.refl w).alloc _
  have q0 : W0.cell? ⟨w.heap.size, 0, none⟩ = some (.slice A n c) := by rw [← hW0]; simp [go_sem]
  have q1 : W0.cell? ⟨w.heap.size, 1, none⟩ = some (.slice E ne ce) := by rw [← hW0]; simp [go_sem]
  have HLN := hid ht.len
  have HS := hid (ht.ext hE)
  have hcap := ht.cap
  have HE := hid hE
  clear ht hE
  obtain ⟨r, hr⟩ : ∃ r, largeB n ne nt tabs = r := ⟨_, rfl⟩
  rw [hr]
  have HR := hid hr
  clear hr
  go_enter Try.func9, Try.ntmps9
  by_cases h1 : 600 < n
  · have hr : Hid (r = true) := hid (by rw [← HR.out]; simp [largeB, h1])
    go_wp2
    go_ret
    exact ⟨by rw [hr.out]; rfl, HE.out⟩
  by_cases h2 : 600 < ne
  · have hr : Hid (r = true) := hid (by rw [← HR.out]; simp [largeB, h2])
    go_wp2
    go_ret
    exact ⟨by rw [hr.out]; rfl, HE.out⟩
  by_cases h3 : 20 < nt
  · have hr : Hid (r = true) := hid (by rw [← HR.out]; simp [largeB, h3])
    go_wp2
    go_ret
    exact ⟨by rw [hr.out]; rfl, HE.out⟩
  have HR2 : Hid (r = tabs.any fun t => decide (100 < t.length)) := hid (by rw [← HR.out]; simp [largeB, h1, h2, h3])
  go_wp2
  clear h1 h2 h3
  go_loop [5] (fun i => ∃ k : Nat, k ≤ nt ∧ i = .int .i64 k ∧ Hid (∀ y ∈ tabs.take k, ¬ 100 < y.length)) (fun i => nt - (intOf i).toNat)
  case atStart => exact ⟨0, by omega, rfl, hid (by simp)⟩
  case round =>
    obtain ⟨k, hk, rfl, ha⟩ := hrel
    by_cases h1 : k < nt
    · obtain ⟨y, hy⟩ : ∃ y, tabs[k]? = some y := ⟨_, List.getElem?_eq_getElem (by have := HLN.out; omega)⟩
      obtain ⟨b, off, A', c', rfl, c0, hs⟩ := Sl_ss_at HS.out hy
      have HY := hid hy
      clear hy hs
      obtain ⟨m, hm⟩ : ∃ m, y.length = m := ⟨_, rfl⟩
      rw [hm] at c0
      have HM := hid hm
      clear hm
      by_cases h2 : 100 < m
      · have hr : Hid (r = true) := hid (by rw [HR2.out, List.any_eq_true]; exact ⟨y, List.mem_of_getElem? HY.out, by rw [HM.out]; simpa using h2⟩)
        go_wp2
        go_ret
        exact ⟨by rw [hr.out]; rfl, HE.out⟩
      · have H2 := hid h2
        go_wp2
        go_round
        case rel => exact ⟨k + 1, by omega, by go_num, hid (by
          intro z hz
          rw [take_snoc' HY.out] at hz
          rcases List.mem_append.1 hz with hz | hz
          · exact ha.out z hz
          · rw [List.mem_singleton] at hz
            subst hz
            rw [HM.out]
            exact H2.out)⟩
        case measure => simp [intOf]; omega
    · obtain rfl : k = nt := by omega
      have hr : Hid (r = false) := hid (by
        have h := ha.out
        rw [List.take_of_length_le (by have := HLN.out; omega)] at h
        rw [HR2.out, Bool.eq_false_iff]
        intro hc
        obtain ⟨t, ht, h2⟩ := List.any_eq_true.1 hc
        exact h t ht (by simpa using h2))
      go_wp2
      go_ret
      exact ⟨by rw [hr.out]; rfl, HE.out⟩

set_option maxHeartbeats 4000000 in
theorem example_any (w : World) : Calls Try.prog 10 #[] w (OneBool w true) := by
  go_enter Try.func10, Try.ntmps10
  go_wp2_with fail
  refine (exa_any _).mono ?_
  rintro e w1 ⟨hx1, A, E, rfl, hi, he⟩
  have HX1 := hid hx1
  have HC := hid (cblocks_any w1 A E none none none none 3 3 1 1 0 0 0 0 0 0 0 0 exIns [4096] [] [] hi he Sl.nil Sl.nil (by omega) (by omega) (by omega) (by simp))
  rw [ex17] at HC
  clear hx1 hi he
  go_wp2_with fail
  refine (HC.out).mono ?_
  rintro e w2 ⟨hx2, A2, c2, rfl, hs2⟩
  simp only [List.length_cons, List.length_nil] at hs2 ⊢
  replace hs2 : Sl bsR w2 All (.slice A2 2 c2) [⟨4096, 4101, [⟨4096, 1, 6, 1, 0, 0, 0, 0, 3⟩, ⟨4099, 4096, 20, 1, 0, 1, 0, 0, 2⟩], [4096, 4101], []⟩, ⟨4101, 4102, [⟨4101, 0, 1, 0, 0, 0, 0, 0, 1⟩], [], []⟩] := hs2
  obtain ⟨b, o, A1, c1, A2', c2', A3, c3, rfl, -, hsu, -, -, -, -, -, -, p3, -⟩ := Sl.bs_at hs2 (k := 0) rfl
  obtain ⟨b', o', A1', c1', A2'', c2'', A3', c3', hA, -, hsu', -, -, -, -, -, -, p3', -⟩ := Sl.bs_at hs2 (k := 1) rfl
  cases hA
  obtain ⟨d, u, rfl, y0, -⟩ := hsu.num_at (k := 0) rfl
  obtain ⟨d', u', hA, y1, -⟩ := hsu.num_at (k := 1) rfl
  cases hA
  have HX2 := hid (HX1.out.trans hx2)
  simp only [List.length_cons, List.length_nil] at p3 p3' ⊢
  have hcap := hs2.cap
  have hcap1 := hsu.cap
  rw [Nat.add_zero] at y0
  clear hx2 hs2 hsu hsu'
  go_wp2
  go_ret
  exact ⟨by simp, HX2.out⟩
end Go.Proofs.Ytolbnhkdpbdhhaa

namespace Go.Proofs.Ytolbnhkdpbdhhaa
open Go.RowKit Go.Deco
set_option linter.unusedSimpArgs false
set_option linter.unusedVariables false
set_option maxRecDepth 100000

theorem info_bas17 : (Try.prog.info? 42).map (fun i => (i.zero, i.size, i.bytes)) = some (some (.agg #[.int .u32 0, .int .u32 0, .slice none 0 0, .slice none 0 0, .slice none 0 0]), 5, 80) := by kernel_rfl
def BssPost (w : World) (l : List Bs) (e : Ending) (w' : World) : Prop := Ext w w' ∧ ∃ A c, e = .returned (.slice A l.length c) ∧ Sl bsR w' All (.slice A l.length c) l

set_option maxHeartbeats 4000000 in
theorem lblks_any (w : World) (A : Option Addr) (n c : Nat) (l : List Bs) (hl : Sl bsR w All (.slice A n c) l) (hn : n ≤ 1000000) :
    Calls Try.prog 21 #[.slice A n c] w (BssPost w l) := by
  have hln := hl.len
  obtain ⟨hnc, hcm⟩ := hl.cap
  obtain ⟨i0, hi, hz0, hz1, hz2⟩ := info_parts info_bas17
  have HS := hid (hl.mono (S' := fun b => b < w.heap.size) fun b _ h => h.lt); clear hl
  have HLN := hid hln; clear hln
  have HI := hid hi; clear hi
  have HZ0 := hid hz0; clear hz0
  have HZ1 := hid hz1; clear hz1
  have HZ2 := hid hz2; clear hz2
  go_enter Try.func21, Try.ntmps21
  go_wp2
  go_loopw [3, 4] (fun v i wr => ∃ (k : Nat) (A' : Option Addr) (c' : Nat), k ≤ n ∧ i = .int .i64 k ∧ v = .slice A' k c' ∧ Hid (OwnS bsR wr w.heap.size 42 (fun b => b < w.heap.size) (.slice A' k c') (l.take k)) ∧ Hid (Ext w wr)) (fun _ i _ => n - (intOf i).toNat)
  case atStart => exact ⟨0, none, 0, by omega, rfl, rfl, hid (by simpa using OwnS.nil), hid (Ext.refl _)⟩
  case round =>
    obtain ⟨k, A', c', hk, rfl, rfl, hown, hx⟩ := hrel
    by_cases h1 : k < n
    · obtain ⟨x, hxx⟩ : ∃ x, l[k]? = some x := ⟨_, List.getElem?_eq_getElem (by have := HLN.out; omega)⟩
      obtain ⟨b, off, A1, d1, A2, d2, A3, d3, rfl, hs1, hs2, hs3, hl1, hl2, c0, c1, c2, c3, c4⟩ := Sl.bs_at (HS.out.ext hx.out) hxx
      have HXK := hid hxx; clear hxx
      have HS1 := hid hs1; clear hs1
      have HS2 := hid hs2; clear hs2
      have HS3 := hid hs3; clear hs3
      have HL1 := hid hl1; clear hl1
      have HL2 := hid hl2; clear hl2
      have HKL := hid (show (l.take k).length = k by rw [List.length_take]; have := HLN.out; omega)
      have HO0 := hid hown.out.dr
      have HX0 := hid hx.out.drew
      have HBL := hid (show b < w.heap.size from by
        obtain ⟨_, _, _, _, _, _, _, _, hA, _, _, _, _, _, d0, _⟩ := Sl.bs_at HS.out HXK.out
        cases hA
        exact World.block_lt_of_cell? _ _ d0)
      have HREL : Hid (bsR.rel wr (fun q => (q < w.heap.size) ∧ some q ≠ (Value.slice A' k c').ownBlock) [.int .u32 x.addr, .int .u32 x.end_, .slice A1 x.ins.length d1, .slice A2 x.succ.length d2, .slice A3 x.calls.length d3] x) := hid (by
        have key : ∀ q, q < w.heap.size → (q < w.heap.size) ∧ some q ≠ (Value.slice A' k c').ownBlock := fun q hq => ⟨hq, fun e => by have := HO0.out.block q e.symm; omega⟩
        exact ⟨_, _, _, rfl, HS1.out.mono (fun q hq _ => key q hq), HS2.out.mono (fun q hq _ => key q hq), HS3.out.mono (fun q hq _ => key q hq), HL1.out, HL2.out⟩)
      go_wp2_with fail
      refine wp_region_held_drew (S := (fun w' => w'.cell? ⟨b, off + k * 5, none⟩ = some (.int .u32 x.addr) ∧ w'.cell? ⟨b, off + k * 5 + 1, none⟩ = some (.int .u32 x.end_) ∧ w'.cell? ⟨b, off + k * 5 + 2, none⟩ = some (.slice A1 x.ins.length d1) ∧ w'.cell? ⟨b, off + k * 5 + 3, none⟩ = some (.slice A2 x.succ.length d2) ∧ w'.cell? ⟨b, off + k * 5 + 4, none⟩ = some (.slice A3 x.calls.length d3))) (by kernel_rfl) ⟨c0, c1, c2, c3, c4⟩ (fun hSR0 => ?_)
      refine wpAnyH_takeL (i := 0) (v := ?Rv0) rfl (by kernel_rfl) (by kernel_rfl) (by kernel_rfl) (fun _ _ _ h => h) (Or.inl ⟨by rfl, ?Ry0⟩) (by assumption) ?Rr0
      case Ry0 => first | (intro w hSw; (try dsimp only at hSw); go_simp; done) | (intro w hSw; (try dsimp only at hSw); go_simp; with_reducible rfl)
      case' Rr0 => try simp only [Act.put, List.setIfInBounds_toArray, List.set_cons_zero, List.set_cons_succ]
      refine wpAnyH_takeL (i := 1) (v := ?Rv1) rfl (by kernel_rfl) (by kernel_rfl) (by kernel_rfl) (fun _ _ _ h => h) (Or.inl ⟨by rfl, ?Ry1⟩) (by assumption) ?Rr1
      case Ry1 => first | (intro w hSw; (try dsimp only at hSw); go_simp; done) | (intro w hSw; (try dsimp only at hSw); go_simp; with_reducible rfl)
      case' Rr1 => try simp only [Act.put, List.setIfInBounds_toArray, List.set_cons_zero, List.set_cons_succ]
      refine wpAnyH_takeL (i := 2) (v := ?Rv2) rfl (by kernel_rfl) (by kernel_rfl) (by kernel_rfl) (fun _ _ _ h => h) (Or.inl ⟨by rfl, ?Ry2⟩) (by assumption) ?Rr2
      case Ry2 => first | (intro w hSw; (try dsimp only at hSw); go_simp; done) | (intro w hSw; (try dsimp only at hSw); go_simp; with_reducible rfl)
      case' Rr2 => try simp only [Act.put, List.setIfInBounds_toArray, List.set_cons_zero, List.set_cons_succ]
      refine wpAnyH_takeL (i := 3) (v := ?Rv3) rfl (by kernel_rfl) (by kernel_rfl) (by kernel_rfl) (fun _ _ _ h => h) (Or.inl ⟨by rfl, ?Ry3⟩) (by assumption) ?Rr3
      case Ry3 => first | (intro w hSw; (try dsimp only at hSw); go_simp; done) | (intro w hSw; (try dsimp only at hSw); go_simp; with_reducible rfl)
      case' Rr3 => try simp only [Act.put, List.setIfInBounds_toArray, List.set_cons_zero, List.set_cons_succ]
      refine wpAnyH_takeL (i := 4) (v := ?Rv4) rfl (by kernel_rfl) (by kernel_rfl) (by kernel_rfl) (fun _ _ _ h => h) (Or.inl ⟨by rfl, ?Ry4⟩) (by assumption) ?Rr4
      case Ry4 => first | (intro w hSw; (try dsimp only at hSw); go_simp; done) | (intro w hSw; (try dsimp only at hSw); go_simp; with_reducible rfl)
      case' Rr4 => try simp only [Act.put, List.setIfInBounds_toArray, List.set_cons_zero, List.set_cons_succ]
      refine wpAnyH_takeL (i := 5) (v := ?Rv5) rfl (by kernel_rfl) (by kernel_rfl) (by kernel_rfl) (fun _ _ _ h => h) (Or.inl ⟨by rfl, ?Ry5⟩) (by assumption) ?Rr5
      case Ry5 => first | (intro w hSw; (try dsimp only at hSw); go_simp; done) | (intro w hSw; (try dsimp only at hSw); go_simp; with_reducible rfl)
      case' Rr5 => try simp only [Act.put, List.setIfInBounds_toArray, List.set_cons_zero, List.set_cons_succ]
      refine wpAnyH_takeL (i := 6) (v := ?Rv6) rfl (by kernel_rfl) (by kernel_rfl) (by kernel_rfl) (fun _ _ _ h => h) (Or.inl ⟨by rfl, ?Ry6⟩) (by assumption) ?Rr6
      case Ry6 => first | (intro w hSw; (try dsimp only at hSw); go_simp; done) | (intro w hSw; (try dsimp only at hSw); go_simp; with_reducible rfl)
      case' Rr6 => try simp only [Act.put, List.setIfInBounds_toArray, List.set_cons_zero, List.set_cons_succ]
      refine wpAnyH_takeL (i := 7) (v := ?Rv7) rfl (by kernel_rfl) (by kernel_rfl) (by kernel_rfl) (fun _ _ _ h => h) (Or.inl ⟨by rfl, ?Ry7⟩) (by assumption) ?Rr7
      case Ry7 => first | (intro w hSw; (try dsimp only at hSw); go_simp; done) | (intro w hSw; (try dsimp only at hSw); go_simp; with_reducible rfl)
      case' Rr7 => try simp only [Act.put, List.setIfInBounds_toArray, List.set_cons_zero, List.set_cons_succ]
      refine wpAnyH_takeL (i := 8) (v := ?Rv8) rfl (by kernel_rfl) (by kernel_rfl) (by kernel_rfl) (fun _ _ _ h => h) (Or.inl ⟨by rfl, ?Ry8⟩) (by assumption) ?Rr8
      case Ry8 => first | (intro w hSw; (try dsimp only at hSw); go_simp; done) | (intro w hSw; (try dsimp only at hSw); go_simp; with_reducible rfl)
      case' Rr8 => try simp only [Act.put, List.setIfInBounds_toArray, List.set_cons_zero, List.set_cons_succ]
      refine wpAnyH_takeL (i := 9) (v := ?Rv9) rfl (by kernel_rfl) (by kernel_rfl) (by kernel_rfl) (fun _ _ _ h => h) (Or.inl ⟨by rfl, ?Ry9⟩) (by assumption) ?Rr9
      case Ry9 => first | (intro w hSw; (try dsimp only at hSw); go_simp; done) | (intro w hSw; (try dsimp only at hSw); go_simp; with_reducible rfl)
      case' Rr9 => try simp only [Act.put, List.setIfInBounds_toArray, List.set_cons_zero, List.set_cons_succ]
      refine wpAnyH_takeL (i := 10) (v := ?Rv10) rfl (by kernel_rfl) (by kernel_rfl) (by kernel_rfl) (fun _ _ _ h => h) (Or.inl ⟨by rfl, ?Ry10⟩) (by assumption) ?Rr10
      case Ry10 => first | (intro w hSw; (try dsimp only at hSw); go_simp; done) | (intro w hSw; (try dsimp only at hSw); go_simp; with_reducible rfl)
      case' Rr10 => try simp only [Act.put, List.setIfInBounds_toArray, List.set_cons_zero, List.set_cons_succ]
      refine wpAnyH_takeL (i := 11) (v := ?Rv11) rfl (by kernel_rfl) (by kernel_rfl) (by kernel_rfl) (fun _ _ _ h => h) (Or.inl ⟨by rfl, ?Ry11⟩) (by assumption) ?Rr11
      case Ry11 => first | (intro w hSw; (try dsimp only at hSw); go_simp; done) | (intro w hSw; (try dsimp only at hSw); go_simp; with_reducible rfl)
      case' Rr11 => try simp only [Act.put, List.setIfInBounds_toArray, List.set_cons_zero, List.set_cons_succ]
      refine wpAnyH_takeL (i := 12) (v := ?Rv12) rfl (by kernel_rfl) (by kernel_rfl) (by kernel_rfl) (fun _ _ _ h => h) (Or.inl ⟨by rfl, ?Ry12⟩) (by assumption) ?Rr12
      case Ry12 => first | (intro w hSw; (try dsimp only at hSw); go_simp; done) | (intro w hSw; (try dsimp only at hSw); go_simp; with_reducible rfl)
      case' Rr12 => try simp only [Act.put, List.setIfInBounds_toArray, List.set_cons_zero, List.set_cons_succ]
      refine wpAnyH_takeL (i := 13) (v := ?Rv13) rfl (by kernel_rfl) (by kernel_rfl) (by kernel_rfl) (fun _ _ _ h => h) (Or.inl ⟨by rfl, ?Ry13⟩) (by assumption) ?Rr13
      case Ry13 => first | (intro w hSw; (try dsimp only at hSw); go_simp; done) | (intro w hSw; (try dsimp only at hSw); go_simp; with_reducible rfl)
      case' Rr13 => try simp only [Act.put, List.setIfInBounds_toArray, List.set_cons_zero, List.set_cons_succ]
      refine wpAnyH_takeL (i := 14) (v := ?Rv14) rfl (by kernel_rfl) (by kernel_rfl) (by kernel_rfl) (fun _ _ _ h => h) (Or.inl ⟨by rfl, ?Ry14⟩) (by assumption) ?Rr14
      case Ry14 => first | (intro w hSw; (try dsimp only at hSw); go_simp; done) | (intro w hSw; (try dsimp only at hSw); go_simp; with_reducible rfl)
      case' Rr14 => try simp only [Act.put, List.setIfInBounds_toArray, List.set_cons_zero, List.set_cons_succ]
      refine wpAnyH_takeL (i := 15) (v := ?Rv15) rfl (by kernel_rfl) (by kernel_rfl) (by kernel_rfl) (fun _ _ _ h => h) (Or.inl ⟨by rfl, ?Ry15⟩) (by assumption) ?Rr15
      case Ry15 => first | (intro w hSw; (try dsimp only at hSw); go_simp; done) | (intro w hSw; (try dsimp only at hSw); go_simp; with_reducible rfl)
      case' Rr15 => try simp only [Act.put, List.setIfInBounds_toArray, List.set_cons_zero, List.set_cons_succ]
      refine wpAnyH_takeL (i := 16) (v := ?Rv16) rfl (by kernel_rfl) (by kernel_rfl) (by kernel_rfl) (fun _ _ _ h => h) (Or.inl ⟨by rfl, ?Ry16⟩) (by assumption) ?Rr16
      case Ry16 => first | (intro w hSw; (try dsimp only at hSw); go_simp; done) | (intro w hSw; (try dsimp only at hSw); go_simp; with_reducible rfl)
      case' Rr16 => try simp only [Act.put, List.setIfInBounds_toArray, List.set_cons_zero, List.set_cons_succ]
      refine wpAnyH_takeL (i := 17) (v := ?Rv17) rfl (by kernel_rfl) (by kernel_rfl) (by kernel_rfl) (fun _ _ _ h => h) (Or.inl ⟨by rfl, ?Ry17⟩) (by assumption) ?Rr17
      case Ry17 => first | (intro w hSw; (try dsimp only at hSw); go_simp; done) | (intro w hSw; (try dsimp only at hSw); go_simp; with_reducible rfl)
      case' Rr17 => try simp only [Act.put, List.setIfInBounds_toArray, List.set_cons_zero, List.set_cons_succ]
      refine wpAnyH_takeL (i := 18) (v := ?Rv18) rfl (by kernel_rfl) (by kernel_rfl) (by kernel_rfl) (fun _ _ _ h => h) (Or.inl ⟨by rfl, ?Ry18⟩) (by assumption) ?Rr18
      case Ry18 => first | (intro w hSw; (try dsimp only at hSw); go_simp; done) | (intro w hSw; (try dsimp only at hSw); go_simp; with_reducible rfl)
      case' Rr18 => try simp only [Act.put, List.setIfInBounds_toArray, List.set_cons_zero, List.set_cons_succ]
      refine wpAnyH_takeL (i := 19) (v := ?Rv19) rfl (by kernel_rfl) (by kernel_rfl) (by kernel_rfl) (fun _ _ _ h => h) (Or.inl ⟨by rfl, ?Ry19⟩) (by assumption) ?Rr19
      case Ry19 => first | (intro w hSw; (try dsimp only at hSw); go_simp; done) | (intro w hSw; (try dsimp only at hSw); go_simp; with_reducible rfl)
      case' Rr19 => try simp only [Act.put, List.setIfInBounds_toArray, List.set_cons_zero, List.set_cons_succ]
      refine wpAnyH_takeL (i := 20) (v := ?Rv20) rfl (by kernel_rfl) (by kernel_rfl) (by kernel_rfl) (fun _ _ _ h => h) (Or.inl ⟨by rfl, ?Ry20⟩) (by assumption) ?Rr20
      case Ry20 => first | (intro w hSw; (try dsimp only at hSw); go_simp; done) | (intro w hSw; (try dsimp only at hSw); go_simp; with_reducible rfl)
      case' Rr20 => try simp only [Act.put, List.setIfInBounds_toArray, List.set_cons_zero, List.set_cons_succ]
      refine wpAnyH_takeL (i := 21) (v := ?Rv21) rfl (by kernel_rfl) (by kernel_rfl) (by kernel_rfl) (fun _ _ _ h => h) (Or.inl ⟨by rfl, ?Ry21⟩) (by assumption) ?Rr21
      case Ry21 => first | (intro w hSw; (try dsimp only at hSw); go_simp; done) | (intro w hSw; (try dsimp only at hSw); go_simp; with_reducible rfl)
      case' Rr21 => try simp only [Act.put, List.setIfInBounds_toArray, List.set_cons_zero, List.set_cons_succ]
      refine wpAnyH_takeL (i := 22) (v := ?Rv22) rfl (by kernel_rfl) (by kernel_rfl) (by kernel_rfl) (fun _ _ _ h => h) (Or.inl ⟨by rfl, ?Ry22⟩) (by assumption) ?Rr22
      case Ry22 => first | (intro w hSw; (try dsimp only at hSw); go_simp; done) | (intro w hSw; (try dsimp only at hSw); go_simp; with_reducible rfl)
      case' Rr22 => try simp only [Act.put, List.setIfInBounds_toArray, List.set_cons_zero, List.set_cons_succ]
      refine wpAnyH_takeL (i := 23) (v := ?Rv23) rfl (by kernel_rfl) (by kernel_rfl) (by kernel_rfl) (fun _ _ _ h => h) (Or.inl ⟨by rfl, ?Ry23⟩) (by assumption) ?Rr23
      case Ry23 => first | (intro w hSw; (try dsimp only at hSw); go_simp; done) | (intro w hSw; (try dsimp only at hSw); go_simp; with_reducible rfl)
      case' Rr23 => try simp only [Act.put, List.setIfInBounds_toArray, List.set_cons_zero, List.set_cons_succ]
      refine wpAnyH_takeL (i := 24) (v := ?Rv24) rfl (by kernel_rfl) (by kernel_rfl) (by kernel_rfl) (fun _ _ _ h => h) (Or.inl ⟨by rfl, ?Ry24⟩) (by assumption) ?Rr24
      case Ry24 => first | (intro w hSw; (try dsimp only at hSw); go_simp; done) | (intro w hSw; (try dsimp only at hSw); go_simp; with_reducible rfl)
      case' Rr24 => try simp only [Act.put, List.setIfInBounds_toArray, List.set_cons_zero, List.set_cons_succ]
      refine wpAnyH_takeL (i := 25) (v := ?Rv25) rfl (by kernel_rfl) (by kernel_rfl) (by kernel_rfl) (fun _ _ _ h => h) (Or.inl ⟨by rfl, ?Ry25⟩) (by assumption) ?Rr25
      case Ry25 => first | (intro w hSw; (try dsimp only at hSw); go_simp; done) | (intro w hSw; (try dsimp only at hSw); go_simp; with_reducible rfl)
      case' Rr25 => try simp only [Act.put, List.setIfInBounds_toArray, List.set_cons_zero, List.set_cons_succ]
      refine wpAnyH_takeL (i := 26) (v := ?Rv26) rfl (by kernel_rfl) (by kernel_rfl) (by kernel_rfl) (fun _ _ _ h => h) (Or.inl ⟨by rfl, ?Ry26⟩) (by assumption) ?Rr26
      case Ry26 => first | (intro w hSw; (try dsimp only at hSw); go_simp; done) | (intro w hSw; (try dsimp only at hSw); go_simp; with_reducible rfl)
      case' Rr26 => try simp only [Act.put, List.setIfInBounds_toArray, List.set_cons_zero, List.set_cons_succ]
      refine wpAnyH_ready (rs := [27]) (by kernel_rfl) (by simp) ?_
      refine AllReadyH.consL rfl (fun K hK => ?_) AllReadyH.nil
      go_simp
      refine hK.out _ _ ⟨((Ext.refl wr).drew.alloc _).cell c0, ((Ext.refl wr).drew.alloc _).cell c1, ((Ext.refl wr).drew.alloc _).cell c2, ((Ext.refl wr).drew.alloc _).cell c3, ((Ext.refl wr).drew.alloc _).cell c4⟩ (fun hSR1 => ?_)
      clear hK K
      try simp only [Act.put, List.setIfInBounds_toArray, List.set_cons_zero, List.set_cons_succ]
      refine wpAnyH_ready (rs := [28]) (by kernel_rfl) (by simp) ?_
      refine AllReadyH.consL rfl (fun K hK => ?_) AllReadyH.nil
      refine step_app1 rfl (.tmp 11) (.tmp 38) 33 rfl w.heap.size 42 i0 _ 5 80 Try.underlying33 HI.out HZ0.out HZ1.out HZ2.out rfl bsR rfl (.slice A' k c') (l.take k) rfl HO0.out x rfl (bsR.ext (Ext.refl wr).drew HREL.out) (by have := HKL.out; omega) (by have := HKL.out; omega) (by exact HX0.out.size) ?_
      intro A2' c2' w3 hown3 hg3
      rw [HKL.out] at hown3
      have HO3 := hid hown3
      have HX3 := hid ((HX0.out.alloc _).grown hg3 (fun k hk => (HO0.out.block _ hk).1))
      have HS3' := hid (hg3.block b (by have h : b < wr.heap.size := World.block_lt_of_cell? _ _ c0; simp; omega) (fun e => by have := HO0.out.block b e.symm; have := HBL.out; omega))
      clear hown3 hg3
      rw [HKL.out]
      refine hK.out _ _ ⟨(World.cell?_of_block HS3'.out).trans (((Ext.refl wr).drew.alloc _).cell c0), (World.cell?_of_block HS3'.out).trans (((Ext.refl wr).drew.alloc _).cell c1), (World.cell?_of_block HS3'.out).trans (((Ext.refl wr).drew.alloc _).cell c2), (World.cell?_of_block HS3'.out).trans (((Ext.refl wr).drew.alloc _).cell c3), (World.cell?_of_block HS3'.out).trans (((Ext.refl wr).drew.alloc _).cell c4)⟩ (fun hSR2 => ?_)
      clear hK K
      try simp only [Act.put, List.setIfInBounds_toArray, List.set_cons_zero, List.set_cons_succ]
      refine wpAnyH_takeL (i := 29) (v := ?Rv29) rfl (by kernel_rfl) (by kernel_rfl) (by kernel_rfl) (fun _ _ _ h => h) (Or.inl ⟨by rfl, ?Ry29⟩) (by assumption) ?Rr29
      case Ry29 => first | (intro w hSw; (try dsimp only at hSw); go_simp; done) | (intro w hSw; (try dsimp only at hSw); go_simp; with_reducible rfl)
      case' Rr29 => try simp only [Act.put, List.setIfInBounds_toArray, List.set_cons_zero, List.set_cons_succ]
      refine wpAnyH_done (by kernel_rfl) ?_ _
      go_wp2
      first
        | go_roundw
        | refine ⟨?rel, ?measure⟩
      case rel => exact ⟨k + 1, A2', c2', by omega, by go_num, rfl, hid (by rw [take_snoc' HXK.out]; exact HO3.out), HX3⟩
      case measure => simp [intOf]; omega
    · obtain rfl : n = k := by omega
      go_wp2
      go_ret
      have e1 : l.take n = l := List.take_of_length_le (by have := HLN.out; omega)
      have ho := hown.out
      rw [e1, HLN.out] at ho
      exact ⟨hx.out, A', c', by rw [← HLN.out]; rfl, ho.sl⟩
end Go.Proofs.Ytolbnhkdpbdhhaa
