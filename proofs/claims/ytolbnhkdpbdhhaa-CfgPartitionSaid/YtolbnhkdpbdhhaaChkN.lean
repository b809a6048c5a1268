/- cfg.Check's look for a block with the same address. -/
import Derived.Test.YtolbnhkdpbdhhaaCfgN
namespace Go.Proofs.Ytolbnhkdpbdhhaa
open Go.RowKit Go.Deco
set_option linter.unusedSimpArgs false
set_option linter.unusedVariables false

def eqBs (a : Nat) (b : Bs) : Bool := decide (b.addr = a)
theorem call_at2 : ∀ args w, (callFunc 46 args).run Try.prog w = .ok (.enter 46 args) w := fun args w => callFunc_enter Try.func46 (by kernel_rfl) rfl args w

set_option maxRecDepth 100000 in
set_option maxHeartbeats 1000000 in
theorem at2_any (w : World) (x : Bs) (A1 A2 A3 : Option Addr) (n1 c1 n2 c2 n3 c3 a b : Nat) (hb : w.cell? ⟨b, 0, none⟩ = some (.int .u32 a)) :
    Calls Try.prog 46 #[.agg #[.int .u32 x.addr, .int .u32 x.end_, .slice A1 n1 c1, .slice A2 n2 c2, .slice A3 n3 c3], .pointer (some ⟨b, 0, none⟩)] w fun e w' => e = .returned (.bool (eqBs a x)) ∧ Ext w w' := by
  obtain ⟨W0, hW0⟩ : ∃ W0, w.alloc (.cells #[.int .u32 x.addr, .int .u32 x.end_, .slice A1 n1 c1, .slice A2 n2 c2, .slice A3 n3 c3] 41) = W0 := ⟨_, rfl⟩
  have hE : Ext w W0 := by rw [← hW0]; exact (Ext.refl w).alloc _
  have c0 : W0.cell? ⟨w.heap.size, 0, none⟩ = some (.int .u32 x.addr) := by rw [← hW0]; simp [go_sem]
  have hb' := hE.cell hb
  have HE := hid hE
  clear hE hb
  go_enter Try.func46, Try.ntmps46
  by_cases h1 : x.addr = a
  · have n1 : ((x.addr : Int) == (a : Int)) = true := by simp [h1]
    have H1 := hid h1
    clear h1
    go_wp2
    go_ret
    exact ⟨ret_bool (by simp [eqBs, H1.out]), HE.out⟩
  · have n1 : ((x.addr : Int) == (a : Int)) = false := by simp; omega
    have H1 := hid h1
    clear h1
    go_wp2
    go_ret
    exact ⟨ret_bool (by simp [eqBs, H1.out]), HE.out⟩

def ixEq (l : List Bs) (a : Nat) : Int := match l.findIdx? (eqBs a) with | some k => k | none => -1
theorem ixEq_hit {l : List Bs} {a k : Nat} {f : Bs} (h : ∀ j, j < k → ∀ y, l[j]? = some y → eqBs a y = false) (hk : l[k]? = some f) (hp : eqBs a f = true) : ixEq l a = k := by
  have : l.findIdx? (eqBs a) = some k := by
    rw [List.findIdx?_eq_some_iff_getElem]
    obtain ⟨hlt, rfl⟩ := List.getElem?_eq_some_iff.1 hk
    exact ⟨hlt, hp, fun j hj => by have := h j hj _ (List.getElem?_eq_getElem (by omega)); simp [this]⟩
  rw [ixEq, this]
theorem ixEq_miss {l : List Bs} {a : Nat} (h : ∀ j, j < l.length → ∀ y, l[j]? = some y → eqBs a y = false) : ixEq l a = -1 := by
  have : l.findIdx? (eqBs a) = none := by
    rw [List.findIdx?_eq_none_iff]
    intro x hx
    obtain ⟨k, hk, rfl⟩ := List.getElem_of_mem hx
    exact h k hk _ (List.getElem?_eq_getElem hk)
  rw [ixEq, this]
set_option maxRecDepth 100000 in
set_option maxHeartbeats 1000000 in
theorem indexEq_any (w : World) (a b : Nat) (hb : w.cell? ⟨b, 0, none⟩ = some (.int .u32 a)) (S : Nat → Prop) (A : Option Addr) (n c : Nat) (l : List Bs) (hl : Sl bsR w S (.slice A n c) l) :
    Calls Try.prog 41 #[.slice A n c, .func (.func 46) #[] #[.pointer (some ⟨b, 0, none⟩)]] w fun e w' => e = .returned (.int .i64 (ixEq l a)) ∧ Ext w w' := by
  have hg := call_at2
  have hcap := hl.cap
  have hln := hl.len
  have HS := hid hl; clear hl
  have HL := hid hln; clear hln
  have HB := hid hb; clear hb
  go_enter Try.func41, Try.ntmps41
  go_wp2
  go_loopw [8] (fun i wr => ∃ k : Nat, k ≤ n ∧ i = .int .i64 k ∧ Hid (Ext w wr) ∧ Hid (∀ j, j < k → ∀ y, l[j]? = some y → eqBs a y = false)) (fun i _ => n - (intOf i).toNat)
  case atStart => exact ⟨0, by omega, rfl, hid (Ext.refl w), hid (by omega)⟩
  case round =>
    obtain ⟨k, hk, rfl, he, ha⟩ := hrel
    by_cases h1 : k < n
    · obtain ⟨x, hx⟩ : ∃ x, l[k]? = some x := ⟨_, List.getElem?_eq_getElem (by have := HL.out; omega)⟩
      obtain ⟨b', off, A1, c1, A2, c2, A3, c3, rfl, -, -, -, -, -, e0, e1, e2, e3, e4⟩ := Sl.bs_at (HS.out.ext he.out) hx
      have HK := hid hx; clear hx
      go_wp2_with fail
      refine (at2_any _ x A1 A2 A3 _ c1 _ c2 _ c3 a b (he.out.cell HB.out)).mono ?_
      rintro e w1 ⟨rfl, hx⟩
      have hx := hid hx
      obtain ⟨r, hr⟩ : ∃ r, eqBs a x = r := ⟨_, rfl⟩
      rw [hr]
      cases r with
      | true =>
        have HR := hid hr; clear hr
        go_wp2
        go_ret
        exact ⟨ret_int (ixEq_hit ha.out HK.out HR.out).symm, he.out.trans hx.out⟩
      | false =>
        have HR := hid hr; clear hr
        clear e0 e1 e2 e3 e4
        go_wp2
        go_roundw
        case rel =>
          refine ⟨k + 1, by omega, by go_num, hid (he.out.trans hx.out), hid fun j hj y hy => ?_⟩
          rcases Nat.lt_or_ge j k with h | h
          · exact ha.out j h y hy
          · obtain rfl : j = k := by omega
            have := HK.out.symm.trans hy
            injection this with this
            rw [← this]; exact HR.out
        case measure => simp [intOf]; omega
    · go_wp2
      go_ret
      exact ⟨ret_int (ixEq_miss (fun j hj => ha.out j (by have := HL.out; omega))).symm, he.out⟩


theorem ixEq_any (l : List Bs) (a : Nat) : decide (0 ≤ ixEq l a) = l.any (eqBs a) := by
  unfold ixEq
  cases h : l.findIdx? (eqBs a) with
  | none =>
    rw [List.findIdx?_eq_none_iff] at h
    have : l.any (eqBs a) = false := by
      rw [Bool.eq_false_iff]
      intro hc
      obtain ⟨x, hx, h2⟩ := List.any_eq_true.1 hc
      rw [h x hx] at h2
      cases h2
    rw [this]
    rfl
  | some k =>
    rw [List.findIdx?_eq_some_iff_getElem] at h
    have : l.any (eqBs a) = true := List.any_eq_true.2 ⟨_, List.getElem_mem h.1, h.2.1⟩
    rw [this]
    simp
set_option maxRecDepth 100000 in
set_option maxHeartbeats 1000000 in
theorem containsEq_any (w : World) (a b : Nat) (hb : w.cell? ⟨b, 0, none⟩ = some (.int .u32 a)) (S : Nat → Prop) (A : Option Addr) (n c : Nat) (l : List Bs) (hl : Sl bsR w S (.slice A n c) l) :
    Calls Try.prog 45 #[.slice A n c, .func (.func 46) #[] #[.pointer (some ⟨b, 0, none⟩)]] w fun e w' => e = .returned (.bool (l.any (eqBs a))) ∧ Ext w w' := by
  have HC := hid (indexEq_any w a b hb S A n c l hl)
  obtain ⟨z, hz⟩ : ∃ z, ixEq l a = z := ⟨_, rfl⟩
  have hr := ixEq_any l a
  rw [hz] at HC hr
  have HR := hid hr
  clear hz hr hl hb
  go_enter Try.func45, Try.ntmps45
  go_wp2_with fail
  refine (HC.out).mono ?_
  rintro e w1 ⟨rfl, hx1⟩
  have HX1 := hid hx1
  clear hx1
  go_wp2
  go_ret
  exact ⟨ret_bool (by rw [← HR.out]), HX1.out⟩
end Go.Proofs.Ytolbnhkdpbdhhaa
