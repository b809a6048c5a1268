/- Basic blocks as data; BlockAt of both. -/
import Derived.Test.YtolbnhkdpbdhhaaCfgB
namespace Go.Proofs.Ytolbnhkdpbdhhaa
open Go.RowKit Go.Deco
set_option linter.unusedSimpArgs false
set_option linter.unusedVariables false

/-- A basic block. -/
structure Bs where
  addr : Nat
  end_ : Nat
  ins : List In
  succ : List Nat
  calls : List (List Nat)
def bsR : Rep Bs where
  size := 5
  pos := by omega
  rel w S cs b := ∃ v1 v2 v3, cs = [.int .u32 b.addr, .int .u32 b.end_, v1, v2, v3] ∧ Sl insR w S v1 b.ins ∧ Sl u32R w S v2 b.succ ∧ Sl u32sR w S v3 b.calls ∧ b.addr < 4294967296 ∧ b.end_ < 4294967296
  keep hk := fun ⟨v1, v2, v3, h0, h1, h2, h3, h4⟩ => ⟨v1, v2, v3, h0, h1.keep hk, h2.keep hk, h3.keep hk, h4⟩
  mono hk := fun ⟨v1, v2, v3, h0, h1, h2, h3, h4⟩ => ⟨v1, v2, v3, h0, h1.mono hk, h2.mono hk, h3.mono hk, h4⟩
  len := fun ⟨v1, v2, v3, h0, _⟩ => by rw [h0]; rfl
  one := fun ⟨v1, v2, v3, h0, h1, h2, h3, _⟩ u hu => by
    obtain ⟨A1, c1, rfl, _⟩ := h1.form
    obtain ⟨A2, c2, rfl, _⟩ := h2.form
    obtain ⟨A3, c3, rfl, _⟩ := h3.form
    rw [h0] at hu
    simp at hu
    rcases hu with rfl | rfl | rfl | rfl | rfl <;> rfl
theorem Sl.bs_at {w : World} {S : Nat → Prop} {A : Option Addr} {n c k : Nat} {l : List Bs} {x : Bs} (h : Sl bsR w S (.slice A n c) l) (hk : l[k]? = some x) :
    ∃ b off A1 c1 A2 c2 A3 c3, A = some ⟨b, off, none⟩ ∧ Sl insR w S (.slice A1 x.ins.length c1) x.ins ∧ Sl u32R w S (.slice A2 x.succ.length c2) x.succ ∧ Sl u32sR w S (.slice A3 x.calls.length c3) x.calls ∧ x.addr < 4294967296 ∧ x.end_ < 4294967296 ∧
      w.cell? ⟨b, off + k * 5, none⟩ = some (.int .u32 x.addr) ∧ w.cell? ⟨b, off + k * 5 + 1, none⟩ = some (.int .u32 x.end_) ∧ w.cell? ⟨b, off + k * 5 + 2, none⟩ = some (.slice A1 x.ins.length c1) ∧ w.cell? ⟨b, off + k * 5 + 3, none⟩ = some (.slice A2 x.succ.length c2) ∧ w.cell? ⟨b, off + k * 5 + 4, none⟩ = some (.slice A3 x.calls.length c3) := by
  obtain ⟨b, off, cs, hA, ⟨v1, v2, v3, hcs, h1, h2, h3, h4, h5⟩, hc⟩ := h.get hk
  obtain ⟨A1, c1, rfl, _⟩ := h1.form
  obtain ⟨A2, c2, rfl, _⟩ := h2.form
  obtain ⟨A3, c3, rfl, _⟩ := h3.form
  subst hcs
  exact ⟨b, off, A1, c1, A2, c2, A3, c3, hA, h1, h2, h3, h4, h5, by simpa [bsR] using hc 0 _ rfl, hc 1 _ rfl, hc 2 _ rfl, hc 3 _ rfl, hc 4 _ rfl⟩
def inBs (a : Nat) (b : Bs) : Bool := decide (b.addr ≤ a) && decide (a < b.end_)
/-- Where a block contains an address, and whether. -/
def atBs (l : List Bs) (a : Nat) : Nat × Bool := match l.findIdx? (inBs a) with | some k => (k, true) | none => (0, false)
theorem atBs_hit {l : List Bs} {a k : Nat} {x : Bs} (h : ∀ y ∈ l.take k, inBs a y = false) (hk : l[k]? = some x) (hx : inBs a x = true) : atBs l a = (k, true) := by
  have hf : l.findIdx? (inBs a) = some k := by
    rw [List.findIdx?_eq_some_iff_getElem]
    obtain ⟨hlt, rfl⟩ := List.getElem?_eq_some_iff.1 hk
    refine ⟨hlt, hx, fun j hj => ?_⟩
    have := h l[j] (List.mem_take_iff_getElem.2 ⟨j, by omega, rfl⟩)
    simp [this]
  unfold atBs
  rw [hf]
theorem atBs_miss {l : List Bs} {a : Nat} (h : ∀ y ∈ l, inBs a y = false) : atBs l a = (0, false) := by
  have hf : l.findIdx? (inBs a) = none := by
    rw [List.findIdx?_eq_none_iff]
    exact h
  unfold atBs
  rw [hf]

set_option maxRecDepth 100000 in
set_option maxHeartbeats 4000000 in
theorem rblockat_any (w : World) (A : Option Addr) (n c : Nat) (l : List Bs) (hl : Sl bsR w All (.slice A n c) l) (a : Nat) :
    Calls Try.prog 20 #[.slice A n c, .int .u32 a] w fun e w' => e = .returned (.tuple #[.int .i64 (atBs l a).1, .bool (atBs l a).2]) ∧ w = w' := by
  have HLN := hid hl.len
  have hcap := hl.cap
  have HS := hid hl
  obtain ⟨r, hr⟩ : ∃ r, atBs l a = r := ⟨_, rfl⟩
  rw [hr]
  have HR := hid hr
  clear hr hl
  go_enter Try.func20, Try.ntmps20
  go_wp2
  go_loop [6] (fun i => ∃ k : Nat, k ≤ n ∧ i = .int .i64 k ∧ Hid (∀ y ∈ l.take k, inBs a y = false)) (fun i => n - (intOf i).toNat)
  case atStart => exact ⟨0, by omega, rfl, hid (by simp)⟩
  case round =>
    obtain ⟨k, hk, rfl, ha⟩ := hrel
    by_cases h1 : k < n
    · obtain ⟨x, hx⟩ : ∃ x, l[k]? = some x := ⟨_, List.getElem?_eq_getElem (by have := HLN.out; omega)⟩
      obtain ⟨b, off, A1, c1, A2, c2, A3, c3, rfl, -, -, -, -, -, e0, e1, -, -, -⟩ := Sl.bs_at HS.out hx
      have HX := hid hx
      clear hx
      have key : inBs a x = true ∨ inBs a x = false := by cases inBs a x <;> simp
      rcases key with h2 | h2
      · have HR2 : Hid (r = (k, true)) := hid (HR.out.symm.trans (atBs_hit ha.out HX.out h2))
        have h3 : x.addr ≤ a ∧ a < x.end_ := by simpa [inBs] using h2
        have n1 : (x.addr : Int) ≤ (a : Int) := by omega
        have n2 : (a : Int) < (x.end_ : Int) := by omega
        clear h2 h3
        go_wp2
        go_ret2
        obtain rfl := HR2.out
        exact ⟨rfl, rfl⟩
      · have H2 := hid h2
        have hrel' : Hid (∀ y ∈ l.take (k + 1), inBs a y = false) := hid (by
          intro z hz
          rw [take_snoc' HX.out] at hz
          rcases List.mem_append.1 hz with hz | hz
          · exact ha.out z hz
          · rw [List.mem_singleton] at hz
            subst hz
            exact H2.out)
        by_cases h3 : x.addr ≤ a
        · have h4 : ¬ a < x.end_ := by
            intro h5
            simp [inBs, h3, h5] at h2
          have n1 : (x.addr : Int) ≤ (a : Int) := by omega
          have n2 : ¬ (a : Int) < (x.end_ : Int) := by omega
          clear h2 h3 h4
          go_wp2
          go_round
          case rel => exact ⟨k + 1, by omega, by go_num, hrel'⟩
          case measure => simp [intOf]; omega
        · have n1 : ¬ (x.addr : Int) ≤ (a : Int) := by omega
          clear h2 h3
          go_wp2
          go_round
          case rel => exact ⟨k + 1, by omega, by go_num, hrel'⟩
          case measure => simp [intOf]; omega
    · obtain rfl : k = n := by omega
      have HR2 : Hid (r = (0, false)) := hid (by
        have h := ha.out
        rw [List.take_of_length_le (by have := HLN.out; omega)] at h
        exact HR.out.symm.trans (atBs_miss h))
      go_wp2
      go_ret2
      obtain rfl := HR2.out
      exact ⟨rfl, rfl⟩
end Go.Proofs.Ytolbnhkdpbdhhaa
