/- The walks of the package 'section': Check. -/
import Derived.Test.YtnlofhbimfcejaaSecA
namespace Go.Proofs.Ytnlofhbimfcejaa
open Go.RowKit Go.Deco

/-- What a predicate on sections must meet: called with a section as a value and what it has captured it gives 'p'. -/
def SecPred (g : FuncId) (cap : Value) (w : World) (p : Sec → Bool) : Prop :=
  ∀ (w' : World) (x : Sec) (A : Option Addr) (c : Nat), Ext w w' → x.data.length ≤ 9223372036854775807 → x.addr < 4294967296 →
    Calls Try.prog g #[.agg #[.string x.name, .int .u32 x.addr, .slice A x.data.length c, .bool x.wr, .bool x.ex], cap] w' fun e w'' => e = .returned (.bool (p x)) ∧ Ext w' w''

def idxOf {E : Type} (p : E → Bool) (l : List E) : Int := match l.findIdx? p with | some k => k | none => -1

theorem idxOf_hit {E : Type} {p : E → Bool} {l : List E} {k : Nat} {e : E} (h : ∀ j, j < k → ∀ y, l[j]? = some y → p y = false) (hk : l[k]? = some e) (hp : p e = true) : idxOf p l = k := by
  have : l.findIdx? p = some k := by
    rw [List.findIdx?_eq_some_iff_getElem]
    obtain ⟨hlt, rfl⟩ := List.getElem?_eq_some_iff.1 hk
    exact ⟨hlt, hp, fun j hj => by have := h j hj _ (List.getElem?_eq_getElem (by omega)); simp [this]⟩
  rw [idxOf, this]
theorem idxOf_miss {E : Type} {p : E → Bool} {l : List E} (h : ∀ j, j < l.length → ∀ y, l[j]? = some y → p y = false) : idxOf p l = -1 := by
  have : l.findIdx? p = none := by
    rw [List.findIdx?_eq_none_iff]
    intro x hx
    obtain ⟨k, hk, rfl⟩ := List.getElem_of_mem hx
    exact h k hk _ (List.getElem?_eq_getElem hk)
  rw [idxOf, this]
theorem idxOf_any {E : Type} (p : E → Bool) (l : List E) : decide (0 ≤ idxOf p l) = l.any p := by
  unfold idxOf
  cases h : l.findIdx? p with
  | none =>
    rw [List.findIdx?_eq_none_iff] at h
    have : l.any p = false := by rw [List.any_eq_false]; intro x hx; simp [h x hx]
    simp [this]
  | some k =>
    rw [List.findIdx?_eq_some_iff_getElem] at h
    obtain ⟨hlt, hp, _⟩ := h
    have : l.any p = true := List.any_eq_true.2 ⟨_, List.getElem_mem hlt, hp⟩
    simp [this]

set_option maxRecDepth 100000 in
set_option maxHeartbeats 400000 in
theorem indexSec_any (g : FuncId) (cap : Value) (w : World) (p : Sec → Bool) (hp : SecPred g cap w p) (S : Nat → Prop) (A : Option Addr) (n c : Nat) (l : List Sec) (hl : Sl secR w S (.slice A n c) l) (hn : n ≤ 9223372036854775807) (hg : ∀ args w, (callFunc g args).run Try.prog w = .ok (.enter g args) w) :
    Calls Try.prog 67 #[.slice A n c, .func (.func g) #[] #[cap]] w fun e w' => e = .returned (.int .i64 (idxOf p l)) ∧ Ext w w' := by
  have hln := hl.len
  have HP := hid hp; clear hp
  have HS := hid hl; clear hl
  have HL := hid hln; clear hln
  go_enter Try.func67, Try.ntmps67
  go_wp2
  go_loopw [8] (fun i wr => ∃ k : Nat, k ≤ n ∧ i = .int .i64 k ∧ Hid (Ext w wr) ∧ Hid (∀ j, j < k → ∀ y, l[j]? = some y → p y = false)) (fun i _ => n - (intOf i).toNat)
  case atStart => exact ⟨0, by omega, rfl, hid (Ext.refl w), hid (by omega)⟩
  case round =>
    obtain ⟨k, hk, rfl, he, ha⟩ := hrel
    by_cases h1 : k < n
    · obtain ⟨s, hs⟩ : ∃ s, l[k]? = some s := ⟨_, List.getElem?_eq_getElem (by have := HL.out; omega)⟩
      obtain ⟨b, off, dA, dc, rfl, hd, hdl, hal, hnl, c0, c1, c2, c3, c4⟩ := (HS.out.ext he.out).sec_at hs
      have HD := hid hd; clear hd
      have HK := hid hs; clear hs
      go_wp2_with fail
      refine (HP.out _ s dA dc he.out hdl hal).mono ?_
      rintro e w1 ⟨rfl, hx⟩
      have hx := hid hx
      obtain ⟨r, hr⟩ : ∃ r, p s = r := ⟨_, rfl⟩
      rw [hr]
      cases r with
      | true =>
        have HR := hid hr; clear hr
        go_wp2
        go_ret
        exact ⟨ret_int (idxOf_hit ha.out HK.out HR.out).symm, he.out.trans hx.out⟩
      | false =>
        have HR := hid hr; clear hr
        go_wp2
        go_roundw
        case rel =>
          refine ⟨k + 1, by omega, by go_num, hid (he.out.trans hx.out), hid fun j hj y hy => ?_⟩
          rcases Nat.lt_or_ge j k with h | h
          · exact ha.out j h y hy
          · obtain rfl : j = k := by omega
            have := HK.out.symm.trans hy
            injection this with this
            rw [← this]; exact HR.out
        case measure => simp [intOf]; omega
    · go_wp2
      go_ret
      exact ⟨ret_int (idxOf_miss (fun j hj => ha.out j (by have := HL.out; omega))).symm, he.out⟩

set_option maxRecDepth 100000 in
set_option maxHeartbeats 400000 in
theorem containsSec_any (g : FuncId) (cap : Value) (w : World) (p : Sec → Bool) (hp : SecPred g cap w p) (S : Nat → Prop) (A : Option Addr) (n c : Nat) (l : List Sec) (hl : Sl secR w S (.slice A n c) l) (hn : n ≤ 9223372036854775807) (hg : ∀ args w, (callFunc g args).run Try.prog w = .ok (.enter g args) w) :
    Calls Try.prog 45 #[.slice A n c, .func (.func g) #[] #[cap]] w fun e w' => e = .returned (.bool (l.any p)) ∧ Ext w w' := by
  have hc := indexSec_any g cap w p hp S A n c l hl hn hg
  have HI := idxOf_any p l
  generalize idxOf p l = i at *
  have HP := hid hp; clear hp
  have HS := hid hl; clear hl
  have HC := hid hc; clear hc
  have HI := hid HI
  go_enter Try.func45, Try.ntmps45
  go_wp2_with fail
  refine HC.out.mono ?_
  rintro e w1 ⟨rfl, hx⟩
  have hx := hid hx
  go_wp2
  all_goals
    go_ret
    exact ⟨ret_bool (by rw [← HI.out]), hx.out⟩
end Go.Proofs.Ytnlofhbimfcejaa
