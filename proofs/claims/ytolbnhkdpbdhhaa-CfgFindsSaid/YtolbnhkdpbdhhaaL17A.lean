/- Chapter 17: the example, and which code is large. -/
import Derived.Test.YtolbnhkdpbdhhaaBkC
import Derived.Test.YtolbnhkdpbdhhaaLit
namespace Go.Proofs.Ytolbnhkdpbdhhaa
open Go.RowKit Go.Deco
set_option linter.unusedSimpArgs false
set_option linter.unusedVariables false
set_option maxRecDepth 100000

def OneBool (w : World) (b : Bool) (e : Ending) (w' : World) : Prop := e = .returned (.bool b) ∧ Ext w w'
def exIns : List In := [⟨4096, 1, 6, 1, 0, 0, 0, 0, 3⟩, ⟨4099, 4096, 20, 1, 0, 1, 0, 0, 2⟩, ⟨4101, 0, 1, 0, 0, 0, 0, 0, 1⟩]
theorem new2 (w : World) (o1 o2 : Obj) (cs : Array Value) (t : TypeId) (j : Nat) (u : Value) (h : cs[j]? = some u) : (((w.alloc o1).alloc o2).alloc (.cells cs t)).cell? ⟨w.heap.size + 1 + 1, 0 + j, none⟩ = some u := by
  have e : w.heap.size + 1 + 1 = ((w.alloc o1).alloc o2).heap.size := by simp
  rw [e, Nat.zero_add, World.cell?_alloc_new]
  exact h
theorem exa_any (w : World) : Calls Try.prog 26 #[] w fun e w' => Ext w w' ∧ ∃ A E, e = .returned (.agg #[.slice A 3 3, .slice E 1 1, .slice none 0 0, .slice none 0 0]) ∧ Sl insR w' All (.slice A 3 3) exIns ∧ Sl u32R w' All (.slice E 1 1) [4096] := by
  go_enter Try.func26, Try.ntmps26
  go_wp2
  refine bodyPost_ret (v := .agg #[.slice (some ⟨w.heap.size + 1 + 1, 0, none⟩) 3 3, .slice (some ⟨w.heap.size + 1, 0, none⟩) 1 1, .slice none 0 0, .slice none 0 0]) (by simp [results, Try.results26, go_sem, World.cell?_setCell_same, World.cell?_setCell_other]) rfl ?_
  refine ⟨(((Ext.refl w).alloc _).alloc _).alloc _, _, _, rfl, ?_, ?_⟩
  · refine sl_of_chunks (R := insR) (l := exIns) (c := 3) trivial (xs := exIns.flatMap inCells) ?_ (fun j u hj => ?_) (by simp [exIns]) (by decide)
    · refine ⟨_, _, rfl, ⟨rfl, ?_⟩, _, _, rfl, ⟨rfl, ?_⟩, _, _, rfl, ⟨rfl, ?_⟩, rfl⟩ <;> simp [InOk, i64ok]
    · exact new2 w _ _ _ _ j u (by simpa [exIns, inCells] using hj)
  · have h := sl_lit (w.alloc (.cells #[.slice (some ⟨w.heap.size + 1 + 1, 0, none⟩) 3 3, .slice (some ⟨w.heap.size + 1, 0, none⟩) 1 1, .slice none 0 0, .slice none 0 0] 25)) [4096] (by decide) (by decide) 39
    have e : (w.alloc (.cells #[.slice (some ⟨w.heap.size + 1 + 1, 0, none⟩) 3 3, .slice (some ⟨w.heap.size + 1, 0, none⟩) 1 1, .slice none 0 0, .slice none 0 0] 25)).heap.size = w.heap.size + 1 := by simp
    rw [e] at h
    exact h.ext ((Ext.refl _).alloc _)
theorem ex17 : blocksR exIns [4096] [] [] = ([⟨4096, 4101, [⟨4096, 1, 6, 1, 0, 0, 0, 0, 3⟩, ⟨4099, 4096, 20, 1, 0, 1, 0, 0, 2⟩], [4096, 4101], []⟩, ⟨4101, 4102, [⟨4101, 0, 1, 0, 0, 0, 0, 0, 1⟩], [], []⟩], 0) := by
  kernel_rfl

def largeB (n ne nt : Nat) (tabs : List (List Nat)) : Bool := decide (600 < n) || (decide (600 < ne) || (decide (20 < nt) || tabs.any fun t => decide (100 < t.length)))
theorem largeB_small {n ne nt : Nat} {tabs : List (List Nat)} (h : largeB n ne nt tabs = false) : n ≤ 600 ∧ ne ≤ 600 ∧ nt ≤ 20 ∧ ∀ t ∈ tabs, t.length ≤ 100 := by
  simp [largeB] at h
  exact ⟨by omega, by omega, by omega, fun t ht => by have := h.2.2.2 t ht; omega⟩
set_option maxHeartbeats 4000000 in
theorem large_any (w : World) (A E U B T : Option Addr) (n c ne ce nu cu nb cb nt ct : Nat) (tabs : List (List Nat)) (ht : Sl u32sR w All (.slice T nt ct) tabs) :
    Calls Try.prog 9 #[.agg #[.slice A n c, .slice E ne ce, .slice U nu cu, .slice B nb cb], .slice T nt ct] w fun e w' => e = .returned (.bool (largeB n ne nt tabs)) ∧ Ext w w' := by
  obtain ⟨W0, hW0⟩ : ∃ W0, w.alloc (.cells #[.slice A n c, .slice E ne ce, .slice U nu cu, .slice B nb cb] 25) = W0 := ⟨_, rfl⟩
  have hE : Ext w W0 := by rw [← hW0]; exact (Ext.refl w).alloc _
  have q0 : W0.cell? ⟨w.heap.size, 0, none⟩ = some (.slice A n c) := by rw [← hW0]; simp [go_sem]
  have q1 : W0.cell? ⟨w.heap.size, 1, none⟩ = some (.slice E ne ce) := by rw [← hW0]; simp [go_sem]
  have HLN := hid ht.len
  have HS := hid (ht.ext hE)
  have hcap := ht.cap
  have HE := hid hE
  clear ht hE
  obtain ⟨r, hr⟩ : ∃ r, largeB n ne nt tabs = r := ⟨_, rfl⟩
  rw [hr]
  have HR := hid hr
  clear hr
  go_enter Try.func9, Try.ntmps9
  by_cases h1 : 600 < n
  · have hr : Hid (r = true) := hid (by rw [← HR.out]; simp [largeB, h1])
    go_wp2
    go_ret
    exact ⟨by rw [hr.out]; rfl, HE.out⟩
  by_cases h2 : 600 < ne
  · have hr : Hid (r = true) := hid (by rw [← HR.out]; simp [largeB, h2])
    go_wp2
    go_ret
    exact ⟨by rw [hr.out]; rfl, HE.out⟩
  by_cases h3 : 20 < nt
  · have hr : Hid (r = true) := hid (by rw [← HR.out]; simp [largeB, h3])
    go_wp2
    go_ret
    exact ⟨by rw [hr.out]; rfl, HE.out⟩
  have HR2 : Hid (r = tabs.any fun t => decide (100 < t.length)) := hid (by rw [← HR.out]; simp [largeB, h1, h2, h3])
  go_wp2
  clear h1 h2 h3
  go_loop [5] (fun i => ∃ k : Nat, k ≤ nt ∧ i = .int .i64 k ∧ Hid (∀ y ∈ tabs.take k, ¬ 100 < y.length)) (fun i => nt - (intOf i).toNat)
  case atStart => exact ⟨0, by omega, rfl, hid (by simp)⟩
  case round =>
    obtain ⟨k, hk, rfl, ha⟩ := hrel
    by_cases h1 : k < nt
    · obtain ⟨y, hy⟩ : ∃ y, tabs[k]? = some y := ⟨_, List.getElem?_eq_getElem (by have := HLN.out; omega)⟩
      obtain ⟨b, off, A', c', rfl, c0, hs⟩ := Sl_ss_at HS.out hy
      have HY := hid hy
      clear hy hs
      obtain ⟨m, hm⟩ : ∃ m, y.length = m := ⟨_, rfl⟩
      rw [hm] at c0
      have HM := hid hm
      clear hm
      by_cases h2 : 100 < m
      · have hr : Hid (r = true) := hid (by rw [HR2.out, List.any_eq_true]; exact ⟨y, List.mem_of_getElem? HY.out, by rw [HM.out]; simpa using h2⟩)
        go_wp2
        go_ret
        exact ⟨by rw [hr.out]; rfl, HE.out⟩
      · have H2 := hid h2
        go_wp2
        go_round
        case rel => exact ⟨k + 1, by omega, by go_num, hid (by
          intro z hz
          rw [take_snoc' HY.out] at hz
          rcases List.mem_append.1 hz with hz | hz
          · exact ha.out z hz
          · rw [List.mem_singleton] at hz
            subst hz
            rw [HM.out]
            exact H2.out)⟩
        case measure => simp [intOf]; omega
    · obtain rfl : k = nt := by omega
      have hr : Hid (r = false) := hid (by
        have h := ha.out
        rw [List.take_of_length_le (by have := HLN.out; omega)] at h
        rw [HR2.out, Bool.eq_false_iff]
        intro hc
        obtain ⟨t, ht, h2⟩ := List.any_eq_true.1 hc
        exact h t ht (by simpa using h2))
      go_wp2
      go_ret
      exact ⟨by rw [hr.out]; rfl, HE.out⟩

set_option maxHeartbeats 4000000 in
theorem example_any (w : World) : Calls Try.prog 10 #[] w (OneBool w true) := by
  go_enter Try.func10, Try.ntmps10
  go_wp2_with fail
  refine (exa_any _).mono ?_
  rintro e w1 ⟨hx1, A, E, rfl, hi, he⟩
  have HX1 := hid hx1
  have HC := hid (cblocks_any w1 A E none none none none 3 3 1 1 0 0 0 0 0 0 0 0 exIns [4096] [] [] hi he Sl.nil Sl.nil (by omega) (by omega) (by omega) (by simp))
  rw [ex17] at HC
  clear hx1 hi he
  go_wp2_with fail
  refine (HC.out).mono ?_
  rintro e w2 ⟨hx2, A2, c2, rfl, hs2⟩
  simp only [List.length_cons, List.length_nil] at hs2 ⊢
  replace hs2 : Sl bsR w2 All (.slice A2 2 c2) [⟨4096, 4101, [⟨4096, 1, 6, 1, 0, 0, 0, 0, 3⟩, ⟨4099, 4096, 20, 1, 0, 1, 0, 0, 2⟩], [4096, 4101], []⟩, ⟨4101, 4102, [⟨4101, 0, 1, 0, 0, 0, 0, 0, 1⟩], [], []⟩] := hs2
  obtain ⟨b, o, A1, c1, A2', c2', A3, c3, rfl, -, hsu, -, -, -, -, -, -, p3, -⟩ := Sl.bs_at hs2 (k := 0) rfl
  obtain ⟨b', o', A1', c1', A2'', c2'', A3', c3', hA, -, hsu', -, -, -, -, -, -, p3', -⟩ := Sl.bs_at hs2 (k := 1) rfl
  cases hA
  obtain ⟨d, u, rfl, y0, -⟩ := hsu.num_at (k := 0) rfl
  obtain ⟨d', u', hA, y1, -⟩ := hsu.num_at (k := 1) rfl
  cases hA
  have HX2 := hid (HX1.out.trans hx2)
  simp only [List.length_cons, List.length_nil] at p3 p3' ⊢
  have hcap := hs2.cap
  have hcap1 := hsu.cap
  rw [Nat.add_zero] at y0
  clear hx2 hs2 hsu hsu'
  go_wp2
  go_ret
  exact ⟨by simp, HX2.out⟩
end Go.Proofs.Ytolbnhkdpbdhhaa
