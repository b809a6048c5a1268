/- cfg.BlockAt. -/
import Derived.Test.YtolbnhkdpbdhhaaCfgM
namespace Go.Proofs.Ytolbnhkdpbdhhaa
open Go.RowKit Go.Deco
set_option linter.unusedSimpArgs false
set_option linter.unusedVariables false

theorem call_at1 : ∀ args w, (callFunc 42 args).run Try.prog w = .ok (.enter 42 args) w := fun args w => callFunc_enter Try.func42 (by kernel_rfl) rfl args w

set_option maxRecDepth 100000 in
set_option maxHeartbeats 1000000 in
theorem at1_any (w : World) (x : Bs) (A1 A2 A3 : Option Addr) (n1 c1 n2 c2 n3 c3 a b : Nat) (hb : w.cell? ⟨b, 0, none⟩ = some (.int .u32 a)) :
    Calls Try.prog 42 #[.agg #[.int .u32 x.addr, .int .u32 x.end_, .slice A1 n1 c1, .slice A2 n2 c2, .slice A3 n3 c3], .pointer (some ⟨b, 0, none⟩)] w fun e w' => e = .returned (.bool (inBs a x)) ∧ Ext w w' := by
  obtain ⟨W0, hW0⟩ : ∃ W0, w.alloc (.cells #[.int .u32 x.addr, .int .u32 x.end_, .slice A1 n1 c1, .slice A2 n2 c2, .slice A3 n3 c3] 41) = W0 := ⟨_, rfl⟩
  have hE : Ext w W0 := by rw [← hW0]; exact (Ext.refl w).alloc _
  have c0 : W0.cell? ⟨w.heap.size, 0, none⟩ = some (.int .u32 x.addr) := by rw [← hW0]; simp [go_sem]
  have c1' : W0.cell? ⟨w.heap.size, 1, none⟩ = some (.int .u32 x.end_) := by rw [← hW0]; simp [go_sem]
  have hb' := hE.cell hb
  have HE := hid hE
  clear hE hb
  go_enter Try.func42, Try.ntmps42
  by_cases h1 : (x.addr : Int) ≤ (a : Int)
  · by_cases h2 : (a : Int) < (x.end_ : Int)
    · go_wp2
      go_ret
      exact ⟨ret_bool (by simp [inBs]; omega), HE.out⟩
    · go_wp2
      go_ret
      exact ⟨ret_bool (by simp [inBs]; omega), HE.out⟩
  · go_wp2
    go_ret
    exact ⟨ret_bool (by simp [inBs]; omega), HE.out⟩

def ixBs (l : List Bs) (a : Nat) : Int := match l.findIdx? (inBs a) with | some k => k | none => -1
theorem ixBs_hit {l : List Bs} {a k : Nat} {f : Bs} (h : ∀ j, j < k → ∀ y, l[j]? = some y → inBs a y = false) (hk : l[k]? = some f) (hp : inBs a f = true) : ixBs l a = k := by
  have : l.findIdx? (inBs a) = some k := by
    rw [List.findIdx?_eq_some_iff_getElem]
    obtain ⟨hlt, rfl⟩ := List.getElem?_eq_some_iff.1 hk
    exact ⟨hlt, hp, fun j hj => by have := h j hj _ (List.getElem?_eq_getElem (by omega)); simp [this]⟩
  rw [ixBs, this]
theorem ixBs_miss {l : List Bs} {a : Nat} (h : ∀ j, j < l.length → ∀ y, l[j]? = some y → inBs a y = false) : ixBs l a = -1 := by
  have : l.findIdx? (inBs a) = none := by
    rw [List.findIdx?_eq_none_iff]
    intro x hx
    obtain ⟨k, hk, rfl⟩ := List.getElem_of_mem hx
    exact h k hk _ (List.getElem?_eq_getElem hk)
  rw [ixBs, this]
theorem ixBs_cases (l : List Bs) (a : Nat) : (ixBs l a = -1 ∧ atBs l a = (0, false)) ∨ ∃ k : Nat, ixBs l a = k ∧ atBs l a = (k, true) ∧ k < l.length := by
  unfold ixBs atBs
  cases h : l.findIdx? (inBs a) with
  | none => exact .inl ⟨rfl, rfl⟩
  | some k =>
    rw [List.findIdx?_eq_some_iff_getElem] at h
    exact .inr ⟨k, rfl, rfl, h.1⟩

set_option maxRecDepth 100000 in
set_option maxHeartbeats 1000000 in
theorem indexBs_any (w : World) (a b : Nat) (hb : w.cell? ⟨b, 0, none⟩ = some (.int .u32 a)) (S : Nat → Prop) (A : Option Addr) (n c : Nat) (l : List Bs) (hl : Sl bsR w S (.slice A n c) l) :
    Calls Try.prog 41 #[.slice A n c, .func (.func 42) #[] #[.pointer (some ⟨b, 0, none⟩)]] w fun e w' => e = .returned (.int .i64 (ixBs l a)) ∧ Ext w w' := by
  have hg := call_at1
  have hcap := hl.cap
  have hln := hl.len
  have HS := hid hl; clear hl
  have HL := hid hln; clear hln
  have HB := hid hb; clear hb
  go_enter Try.func41, Try.ntmps41
  go_wp2
  go_loopw [8] (fun i wr => ∃ k : Nat, k ≤ n ∧ i = .int .i64 k ∧ Hid (Ext w wr) ∧ Hid (∀ j, j < k → ∀ y, l[j]? = some y → inBs a y = false)) (fun i _ => n - (intOf i).toNat)
  case atStart => exact ⟨0, by omega, rfl, hid (Ext.refl w), hid (by omega)⟩
  case round =>
    obtain ⟨k, hk, rfl, he, ha⟩ := hrel
    by_cases h1 : k < n
    · obtain ⟨x, hx⟩ : ∃ x, l[k]? = some x := ⟨_, List.getElem?_eq_getElem (by have := HL.out; omega)⟩
      obtain ⟨b', off, A1, c1, A2, c2, A3, c3, rfl, -, -, -, -, -, e0, e1, e2, e3, e4⟩ := Sl.bs_at (HS.out.ext he.out) hx
      have HK := hid hx; clear hx
      go_wp2_with fail
      refine (at1_any _ x A1 A2 A3 _ c1 _ c2 _ c3 a b (he.out.cell HB.out)).mono ?_
      rintro e w1 ⟨rfl, hx⟩
      have hx := hid hx
      obtain ⟨r, hr⟩ : ∃ r, inBs a x = r := ⟨_, rfl⟩
      rw [hr]
      cases r with
      | true =>
        have HR := hid hr; clear hr
        go_wp2
        go_ret
        exact ⟨ret_int (ixBs_hit ha.out HK.out HR.out).symm, he.out.trans hx.out⟩
      | false =>
        have HR := hid hr; clear hr
        clear e0 e1 e2 e3 e4
        go_wp2
        go_roundw
        case rel =>
          refine ⟨k + 1, by omega, by go_num, hid (he.out.trans hx.out), hid fun j hj y hy => ?_⟩
          rcases Nat.lt_or_ge j k with h | h
          · exact ha.out j h y hy
          · obtain rfl : j = k := by omega
            have := HK.out.symm.trans hy
            injection this with this
            rw [← this]; exact HR.out
        case measure => simp [intOf]; omega
    · go_wp2
      go_ret
      exact ⟨ret_int (ixBs_miss (fun j hj => ha.out j (by have := HL.out; omega))).symm, he.out⟩

set_option maxRecDepth 100000 in
set_option maxHeartbeats 1000000 in
theorem blockat_any (w : World) (A : Option Addr) (n c : Nat) (l : List Bs) (hl : Sl bsR w All (.slice A n c) l) (a : Nat) :
    Calls Try.prog 19 #[.slice A n c, .int .u32 a] w fun e w' => e = .returned (.tuple #[.int .i64 (atBs l a).1, .bool (atBs l a).2]) ∧ Ext w w' := by
  obtain ⟨W0, hW0⟩ : ∃ W0, w.alloc (.cells #[.int .u32 a] 39) = W0 := ⟨_, rfl⟩
  have hE : Ext w W0 := by rw [← hW0]; exact (Ext.refl w).alloc _
  have c0 : W0.cell? ⟨w.heap.size, 0, none⟩ = some (.int .u32 a) := by rw [← hW0]; simp [go_sem]
  have HIX := hid (indexBs_any W0 a w.heap.size c0 All A n c l (hl.ext hE))
  have HE := hid hE
  have hc := hl.cap
  have HLN := hid hl.len
  clear hE hl
  go_enter Try.func19, Try.ntmps19
  go_wp2_with fail
  clear hW0 c0
  refine (HIX.out).mono ?_
  rintro e w1 ⟨rfl, hx1⟩
  have HX1 := hid (HE.out.trans hx1)
  rcases ixBs_cases l a with ⟨h1, h2⟩ | ⟨k, h1, h2, h3⟩
  · rw [h1]
    have H2 := hid h2
    clear h1 h2 hx1
    go_wp2
    go_ret2
    rw [H2.out]
    exact ⟨rfl, HX1.out⟩
  · rw [h1]
    have H2 := hid h2
    have hm : max (k : Int) 0 = k := by omega
    clear h1 h2 hx1
    go_wp2
    go_ret2
    rw [H2.out]
    exact ⟨by simp, HX1.out⟩
end Go.Proofs.Ytolbnhkdpbdhhaa
