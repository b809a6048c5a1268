/- Chapter 17 as plain law: code, targets, leaders, blocks. No program in sight. cfg.collect. cfg: table, targets. Basic blocks as data; BlockAt of both. cfg.BlockAt. cfg.Check's look for a block with the same address. -/
import Derived.Test.YtnlmhnbogleijaaGreatDoorIsam
import Derived.Test.YtnlmhnbogleijaaGreatDoorInsm
import Derived.Test.YtnlmhnbogleijaaGreatDoorLasm
import Derived.Test.YtnlmhnbogleijaaGreatDoorUabm
namespace Go.Proofs.YtnlmhnbogleijaaGreatDoor
open Go Go.RowKit Go.Deco
set_option linter.unusedVariables false
set_option linter.unusedSimpArgs false

/-- The first instruction at an address. -/
def firstIn (l : List In) (a : Nat) : Option In := l.find? fun i => decide (i.addr = a)
def hasIn (l : List In) (a : Nat) : Bool := (firstIn l a).isSome
theorem firstIn_addr {l : List In} {a : Nat} {i : In} (h : firstIn l a = some i) : i.addr = a ∧ i ∈ l := by
  unfold firstIn at h
  exact ⟨by simpa using List.find?_some h, List.mem_of_find?_eq_some h⟩
theorem firstIn_snoc_old {l : List In} {k : Nat} {i x : In} {a : Nat} (hk : l[k]? = some i) (h : firstIn (l.take k) i.addr = some x) : firstIn (l.take (k + 1)) a = firstIn (l.take k) a := by
  unfold firstIn at *
  rw [take_snoc' hk, List.find?_append]
  cases h2 : (l.take k).find? (fun i => decide (i.addr = a)) with
  | some y => simp
  | none =>
    by_cases e : i.addr = a
    · subst e
      rw [h] at h2
      cases h2
    · simp [e]
theorem firstIn_snoc_new {l : List In} {k : Nat} {i : In} {a : Nat} (hk : l[k]? = some i) (h : firstIn (l.take k) i.addr = none) : firstIn (l.take (k + 1)) a = if a = i.addr then some i else firstIn (l.take k) a := by
  unfold firstIn at *
  rw [take_snoc' hk, List.find?_append]
  by_cases e : a = i.addr
  · subst e
    rw [h]
    simp
  · rw [if_neg e]
    cases h2 : (l.take k).find? (fun i => decide (i.addr = a)) with
    | some y => simp
    | none =>
      have e' : ¬ i.addr = a := fun h => e h.symm
      simp [e']
/-- The table of an address. -/
def tabOf (tables : List (List Nat)) (at_ : List Nat) (a : Nat) : Option (List Nat) :=
  match at_.findIdx? (fun x => x == a) with
  | some k => tables[k]?
  | none => none
/-- The targets of an instruction. -/
def tgtI (tables : List (List Nat)) (at_ : List Nat) (i : In) : List Nat :=
  if i.op = 20 then [i.imm] else if i.op = 21 ∨ i.op = 22 then (tabOf tables at_ i.addr).getD [] else []
/-- The addresses that an instruction makes leaders. -/
def candI (tables : List (List Nat)) (at_ : List Nat) (i : In) : List Nat := tgtI tables at_ i ++ (if stopsI i then [nextI i] else [])
/-- All addresses that may be leaders. -/
def Cand (ins : List In) (entries : List Nat) (tables : List (List Nat)) (at_ : List Nat) (x : Nat) : Prop :=
  x ∈ entries ∨ ∃ a i, firstIn ins a = some i ∧ x ∈ candI tables at_ i
end Go.Proofs.YtnlmhnbogleijaaGreatDoor

namespace Go.Proofs.YtnlmhnbogleijaaGreatDoor
open Go.RowKit Go.Deco
set_option linter.unusedSimpArgs false
set_option linter.unusedVariables false

def insF (l : List In) (a : Nat) : Option Value := (firstIn l a).map inV
theorem zero_in (w : World) : (zeroValue 77).run Tryz.prog w = .ok (inV In.zero) w := by kernel_rfl
theorem Sl.in_at {w : World} {S : Nat → Prop} {A : Option Addr} {n c k : Nat} {l : List In} {i : In} (h : Sl insR w S (.slice A n c) l) (hk : l[k]? = some i) :
    ∃ b off, A = some ⟨b, off, none⟩ ∧ InOk i ∧ w.cell? ⟨b, off + k * 9, none⟩ = some (.int .u32 i.addr) ∧ w.cell? ⟨b, off + k * 9 + 1, none⟩ = some (.int .u32 i.imm) ∧ w.cell? ⟨b, off + k * 9 + 2, none⟩ = some (.int .i64 i.op) ∧ w.cell? ⟨b, off + k * 9 + 3, none⟩ = some (.int .i64 i.form) ∧
      w.cell? ⟨b, off + k * 9 + 4, none⟩ = some (.int .i64 i.width) ∧ w.cell? ⟨b, off + k * 9 + 5, none⟩ = some (.int .i64 i.cc) ∧ w.cell? ⟨b, off + k * 9 + 6, none⟩ = some (.int .i64 i.a) ∧ w.cell? ⟨b, off + k * 9 + 7, none⟩ = some (.int .i64 i.b) ∧ w.cell? ⟨b, off + k * 9 + 8, none⟩ = some (.int .i64 i.size) := by
  obtain ⟨b, off, cs, hA, ⟨hcs, h1⟩, hc⟩ := h.get hk
  subst hcs
  exact ⟨b, off, hA, h1, by simpa [insR] using hc 0 _ rfl, hc 1 _ rfl, hc 2 _ rfl, hc 3 _ rfl, hc 4 _ rfl, hc 5 _ rfl, hc 6 _ rfl, hc 7 _ rfl, hc 8 _ rfl⟩

theorem grown17 {a b c : World} {g : Nat} (h : a.grownBy b (some g)) (k : b.grownBy c (some g)) : a.grownBy c (some g) :=
  ⟨k.os.trans h.os, k.tape.trans h.tape, k.output.trans h.output, Nat.le_trans h.size k.size, fun i hi hne => (k.block i (Nat.lt_of_lt_of_le hi h.size) hne).trans (h.block i hi hne)⟩
/-- The code collected: a map of the first instructions. -/
def CollIs (w : World) (ins : List In) (T Q : Value) (e : Ending) (w' : World) : Prop :=
  Ext w w' ∧ ∃ b q, e = .returned (.agg #[.map (some b), T, Q]) ∧ w.heap.size ≤ b ∧ MapG (u32K Tryz.underlying38) w' b q (insF ins) ∧ q ≤ ins.length

end Go.Proofs.YtnlmhnbogleijaaGreatDoor

namespace Go.Proofs.YtnlmhnbogleijaaGreatDoor
open Go.RowKit Go.Deco
set_option linter.unusedSimpArgs false
set_option linter.unusedVariables false

abbrev u32sR : Rep (List Nat) := slR u32R
theorem tabOf_hit {tables : List (List Nat)} {at_ : List Nat} {a k : Nat} (h : ixN (fun y => y == a) at_ = k) : tabOf tables at_ a = tables[k]? := by
  unfold ixN at h
  unfold tabOf
  cases h2 : at_.findIdx? (fun y => y == a) with
  | none => rw [h2] at h; simp at h
  | some j =>
    rw [h2] at h
    simp at h
    obtain rfl : j = k := by omega
    rfl
theorem tabOf_miss {tables : List (List Nat)} {at_ : List Nat} {a : Nat} (h : ixN (fun y => y == a) at_ = -1) : tabOf tables at_ a = none := by
  unfold ixN at h
  unfold tabOf
  cases h2 : at_.findIdx? (fun y => y == a) with
  | none => rfl
  | some j => rw [h2] at h; simp at h
def TabIs (S : Nat → Prop) (wo w : World) (o : Option (List Nat)) (e : Ending) (w' : World) : Prop :=
  Ext w w' ∧ ∃ A c, e = .returned (.tuple #[.slice A (o.getD []).length c, .bool o.isSome]) ∧ Sl u32R wo S (.slice A (o.getD []).length c) (o.getD [])


/-- What targets returns. -/
def TgtIs (S : Nat → Prop) (w : World) (i : In) (l : List Nat) (e : Ending) (w' : World) : Prop :=
  Ext w w' ∧ ∃ A c, e = .returned (.slice A l.length c) ∧ Sl u32R w' All (.slice A l.length c) l ∧ ((i.op = 20 ∧ l = [i.imm]) ∨ Sl u32R w S (.slice A l.length c) l)

end Go.Proofs.YtnlmhnbogleijaaGreatDoor

namespace Go.Proofs.YtnlmhnbogleijaaGreatDoor
open Go.RowKit Go.Deco
set_option linter.unusedSimpArgs false
set_option linter.unusedVariables false

/-- A basic block. -/
structure Bs where
  addr : Nat
  end_ : Nat
  ins : List In
  succ : List Nat
  calls : List (List Nat)
def bsR : Rep Bs where
  size := 5
  pos := by omega
  rel w S cs b := ∃ v1 v2 v3, cs = [.int .u32 b.addr, .int .u32 b.end_, v1, v2, v3] ∧ Sl insR w S v1 b.ins ∧ Sl u32R w S v2 b.succ ∧ Sl u32sR w S v3 b.calls ∧ b.addr < 4294967296 ∧ b.end_ < 4294967296
  keep hk := fun ⟨v1, v2, v3, h0, h1, h2, h3, h4⟩ => ⟨v1, v2, v3, h0, h1.keep hk, h2.keep hk, h3.keep hk, h4⟩
  mono hk := fun ⟨v1, v2, v3, h0, h1, h2, h3, h4⟩ => ⟨v1, v2, v3, h0, h1.mono hk, h2.mono hk, h3.mono hk, h4⟩
  len := fun ⟨v1, v2, v3, h0, _⟩ => by rw [h0]; rfl
  one := fun ⟨v1, v2, v3, h0, h1, h2, h3, _⟩ u hu => by
    obtain ⟨A1, c1, rfl, _⟩ := h1.form
    obtain ⟨A2, c2, rfl, _⟩ := h2.form
    obtain ⟨A3, c3, rfl, _⟩ := h3.form
    rw [h0] at hu
    simp at hu
    rcases hu with rfl | rfl | rfl | rfl | rfl <;> rfl
theorem Sl.bs_at {w : World} {S : Nat → Prop} {A : Option Addr} {n c k : Nat} {l : List Bs} {x : Bs} (h : Sl bsR w S (.slice A n c) l) (hk : l[k]? = some x) :
    ∃ b off A1 c1 A2 c2 A3 c3, A = some ⟨b, off, none⟩ ∧ Sl insR w S (.slice A1 x.ins.length c1) x.ins ∧ Sl u32R w S (.slice A2 x.succ.length c2) x.succ ∧ Sl u32sR w S (.slice A3 x.calls.length c3) x.calls ∧ x.addr < 4294967296 ∧ x.end_ < 4294967296 ∧
      w.cell? ⟨b, off + k * 5, none⟩ = some (.int .u32 x.addr) ∧ w.cell? ⟨b, off + k * 5 + 1, none⟩ = some (.int .u32 x.end_) ∧ w.cell? ⟨b, off + k * 5 + 2, none⟩ = some (.slice A1 x.ins.length c1) ∧ w.cell? ⟨b, off + k * 5 + 3, none⟩ = some (.slice A2 x.succ.length c2) ∧ w.cell? ⟨b, off + k * 5 + 4, none⟩ = some (.slice A3 x.calls.length c3) := by
  obtain ⟨b, off, cs, hA, ⟨v1, v2, v3, hcs, h1, h2, h3, h4, h5⟩, hc⟩ := h.get hk
  obtain ⟨A1, c1, rfl, _⟩ := h1.form
  obtain ⟨A2, c2, rfl, _⟩ := h2.form
  obtain ⟨A3, c3, rfl, _⟩ := h3.form
  subst hcs
  exact ⟨b, off, A1, c1, A2, c2, A3, c3, hA, h1, h2, h3, h4, h5, by simpa [bsR] using hc 0 _ rfl, hc 1 _ rfl, hc 2 _ rfl, hc 3 _ rfl, hc 4 _ rfl⟩
def inBs (a : Nat) (b : Bs) : Bool := decide (b.addr ≤ a) && decide (a < b.end_)
/-- Where a block contains an address, and whether. -/
def atBs (l : List Bs) (a : Nat) : Nat × Bool := match l.findIdx? (inBs a) with | some k => (k, true) | none => (0, false)
theorem atBs_hit {l : List Bs} {a k : Nat} {x : Bs} (h : ∀ y ∈ l.take k, inBs a y = false) (hk : l[k]? = some x) (hx : inBs a x = true) : atBs l a = (k, true) := by
  have hf : l.findIdx? (inBs a) = some k := by
    rw [List.findIdx?_eq_some_iff_getElem]
    obtain ⟨hlt, rfl⟩ := List.getElem?_eq_some_iff.1 hk
    refine ⟨hlt, hx, fun j hj => ?_⟩
    have := h l[j] (List.mem_take_iff_getElem.2 ⟨j, by omega, rfl⟩)
    simp [this]
  unfold atBs
  rw [hf]
theorem atBs_miss {l : List Bs} {a : Nat} (h : ∀ y ∈ l, inBs a y = false) : atBs l a = (0, false) := by
  have hf : l.findIdx? (inBs a) = none := by
    rw [List.findIdx?_eq_none_iff]
    exact h
  unfold atBs
  rw [hf]

end Go.Proofs.YtnlmhnbogleijaaGreatDoor

namespace Go.Proofs.YtnlmhnbogleijaaGreatDoor
open Go.RowKit Go.Deco
set_option linter.unusedSimpArgs false
set_option linter.unusedVariables false



def ixBs (l : List Bs) (a : Nat) : Int := match l.findIdx? (inBs a) with | some k => k | none => -1
theorem ixBs_hit {l : List Bs} {a k : Nat} {f : Bs} (h : ∀ j, j < k → ∀ y, l[j]? = some y → inBs a y = false) (hk : l[k]? = some f) (hp : inBs a f = true) : ixBs l a = k := by
  have : l.findIdx? (inBs a) = some k := by
    rw [List.findIdx?_eq_some_iff_getElem]
    obtain ⟨hlt, rfl⟩ := List.getElem?_eq_some_iff.1 hk
    exact ⟨hlt, hp, fun j hj => by have := h j hj _ (List.getElem?_eq_getElem (by omega)); simp [this]⟩
  rw [ixBs, this]
theorem ixBs_miss {l : List Bs} {a : Nat} (h : ∀ j, j < l.length → ∀ y, l[j]? = some y → inBs a y = false) : ixBs l a = -1 := by
  have : l.findIdx? (inBs a) = none := by
    rw [List.findIdx?_eq_none_iff]
    intro x hx
    obtain ⟨k, hk, rfl⟩ := List.getElem_of_mem hx
    exact h k hk _ (List.getElem?_eq_getElem hk)
  rw [ixBs, this]
theorem ixBs_cases (l : List Bs) (a : Nat) : (ixBs l a = -1 ∧ atBs l a = (0, false)) ∨ ∃ k : Nat, ixBs l a = k ∧ atBs l a = (k, true) ∧ k < l.length := by
  unfold ixBs atBs
  cases h : l.findIdx? (inBs a) with
  | none => exact .inl ⟨rfl, rfl⟩
  | some k =>
    rw [List.findIdx?_eq_some_iff_getElem] at h
    exact .inr ⟨k, rfl, rfl, h.1⟩


end Go.Proofs.YtnlmhnbogleijaaGreatDoor

namespace Go.Proofs.YtnlmhnbogleijaaGreatDoor
open Go.RowKit Go.Deco
set_option linter.unusedSimpArgs false
set_option linter.unusedVariables false

def eqBs (a : Nat) (b : Bs) : Bool := decide (b.addr = a)
theorem call_at2 : ∀ args w, (callFunc 32 args).run Tryz.prog w = .ok (.enter 32 args) w := fun args w => callFunc_enter Tryz.func32 (by kernel_rfl) rfl args w

set_option maxRecDepth 100000 in
set_option maxHeartbeats 1000000 in
theorem at2_any (w : World) (x : Bs) (A1 A2 A3 : Option Addr) (n1 c1 n2 c2 n3 c3 a b : Nat) (hb : w.cell? ⟨b, 0, none⟩ = some (.int .u32 a)) :
    Calls Tryz.prog 32 #[.agg #[.int .u32 x.addr, .int .u32 x.end_, .slice A1 n1 c1, .slice A2 n2 c2, .slice A3 n3 c3], .pointer (some ⟨b, 0, none⟩)] w fun e w' => e = .returned (.bool (eqBs a x)) ∧ Ext w w' := by
  obtain ⟨W0, hW0⟩ : ∃ W0, w.alloc (.cells #[.int .u32 x.addr, .int .u32 x.end_, .slice A1 n1 c1, .slice A2 n2 c2, .slice A3 n3 c3] 55) = W0 := ⟨_, rfl⟩
  have hE : Ext w W0 := by rw [← hW0]; exact (Ext.refl w).alloc _
  have c0 : W0.cell? ⟨w.heap.size, 0, none⟩ = some (.int .u32 x.addr) := by rw [← hW0]; simp [go_sem]
  have hb' := hE.cell hb
  have HE := hid hE
  clear hE hb
  go_enter Tryz.func32, Tryz.ntmps32
  by_cases h1 : x.addr = a
  · have n1 : ((x.addr : Int) == (a : Int)) = true := by simp [h1]
    have H1 := hid h1
    clear h1
    go_wp2
    go_ret
    exact ⟨ret_bool (by simp [eqBs, H1.out]), HE.out⟩
  · have n1 : ((x.addr : Int) == (a : Int)) = false := by simp; omega
    have H1 := hid h1
    clear h1
    go_wp2
    go_ret
    exact ⟨ret_bool (by simp [eqBs, H1.out]), HE.out⟩

def ixEq (l : List Bs) (a : Nat) : Int := match l.findIdx? (eqBs a) with | some k => k | none => -1
theorem ixEq_hit {l : List Bs} {a k : Nat} {f : Bs} (h : ∀ j, j < k → ∀ y, l[j]? = some y → eqBs a y = false) (hk : l[k]? = some f) (hp : eqBs a f = true) : ixEq l a = k := by
  have : l.findIdx? (eqBs a) = some k := by
    rw [List.findIdx?_eq_some_iff_getElem]
    obtain ⟨hlt, rfl⟩ := List.getElem?_eq_some_iff.1 hk
    exact ⟨hlt, hp, fun j hj => by have := h j hj _ (List.getElem?_eq_getElem (by omega)); simp [this]⟩
  rw [ixEq, this]
theorem ixEq_miss {l : List Bs} {a : Nat} (h : ∀ j, j < l.length → ∀ y, l[j]? = some y → eqBs a y = false) : ixEq l a = -1 := by
  have : l.findIdx? (eqBs a) = none := by
    rw [List.findIdx?_eq_none_iff]
    intro x hx
    obtain ⟨k, hk, rfl⟩ := List.getElem_of_mem hx
    exact h k hk _ (List.getElem?_eq_getElem hk)
  rw [ixEq, this]
set_option maxRecDepth 100000 in
set_option maxHeartbeats 1000000 in
theorem indexEq_any (w : World) (a b : Nat) (hb : w.cell? ⟨b, 0, none⟩ = some (.int .u32 a)) (S : Nat → Prop) (A : Option Addr) (n c : Nat) (l : List Bs) (hl : Sl bsR w S (.slice A n c) l) :
    Calls Tryz.prog 54 #[.slice A n c, .func (.func 32) #[] #[.pointer (some ⟨b, 0, none⟩)]] w fun e w' => e = .returned (.int .i64 (ixEq l a)) ∧ Ext w w' := by
  have hg := call_at2
  have hcap := hl.cap
  have hln := hl.len
  have HS := hid hl; clear hl
  have HL := hid hln; clear hln
  have HB := hid hb; clear hb
  go_enter Tryz.func54, Tryz.ntmps54
  go_wp2
  go_loopw [8] (fun i wr => ∃ k : Nat, k ≤ n ∧ i = .int .i64 k ∧ Hid (Ext w wr) ∧ Hid (∀ j, j < k → ∀ y, l[j]? = some y → eqBs a y = false)) (fun i _ => n - (intOf i).toNat)
  case atStart => exact ⟨0, by omega, rfl, hid (Ext.refl w), hid (by omega)⟩
  case round =>
    obtain ⟨k, hk, rfl, he, ha⟩ := hrel
    by_cases h1 : k < n
    · obtain ⟨x, hx⟩ : ∃ x, l[k]? = some x := ⟨_, List.getElem?_eq_getElem (by have := HL.out; omega)⟩
      obtain ⟨b', off, A1, c1, A2, c2, A3, c3, rfl, -, -, -, -, -, e0, e1, e2, e3, e4⟩ := Sl.bs_at (HS.out.ext he.out) hx
      have HK := hid hx; clear hx
      go_wp2_with fail
      refine (at2_any _ x A1 A2 A3 _ c1 _ c2 _ c3 a b (he.out.cell HB.out)).mono ?_
      rintro e w1 ⟨rfl, hx⟩
      have hx := hid hx
      obtain ⟨r, hr⟩ : ∃ r, eqBs a x = r := ⟨_, rfl⟩
      rw [hr]
      cases r with
      | true =>
        have HR := hid hr; clear hr
        go_wp2
        go_ret
        exact ⟨ret_int (ixEq_hit ha.out HK.out HR.out).symm, he.out.trans hx.out⟩
      | false =>
        have HR := hid hr; clear hr
        clear e0 e1 e2 e3 e4
        go_wp2
        go_roundw
        case rel =>
          refine ⟨k + 1, by omega, by go_num, hid (he.out.trans hx.out), hid fun j hj y hy => ?_⟩
          rcases Nat.lt_or_ge j k with h | h
          · exact ha.out j h y hy
          · obtain rfl : j = k := by omega
            have := HK.out.symm.trans hy
            injection this with this
            rw [← this]; exact HR.out
        case measure => simp [intOf]; omega
    · go_wp2
      go_ret
      exact ⟨ret_int (ixEq_miss (fun j hj => ha.out j (by have := HL.out; omega))).symm, he.out⟩


theorem ixEq_any (l : List Bs) (a : Nat) : decide (0 ≤ ixEq l a) = l.any (eqBs a) := by
  unfold ixEq
  cases h : l.findIdx? (eqBs a) with
  | none =>
    rw [List.findIdx?_eq_none_iff] at h
    have : l.any (eqBs a) = false := by
      rw [Bool.eq_false_iff]
      intro hc
      obtain ⟨x, hx, h2⟩ := List.any_eq_true.1 hc
      rw [h x hx] at h2
      cases h2
    rw [this]
    rfl
  | some k =>
    rw [List.findIdx?_eq_some_iff_getElem] at h
    have : l.any (eqBs a) = true := List.any_eq_true.2 ⟨_, List.getElem_mem h.1, h.2.1⟩
    rw [this]
    simp
set_option maxRecDepth 100000 in
set_option maxHeartbeats 1000000 in
theorem containsEq_any (w : World) (a b : Nat) (hb : w.cell? ⟨b, 0, none⟩ = some (.int .u32 a)) (S : Nat → Prop) (A : Option Addr) (n c : Nat) (l : List Bs) (hl : Sl bsR w S (.slice A n c) l) :
    Calls Tryz.prog 31 #[.slice A n c, .func (.func 32) #[] #[.pointer (some ⟨b, 0, none⟩)]] w fun e w' => e = .returned (.bool (l.any (eqBs a))) ∧ Ext w w' := by
  have HC := hid (indexEq_any w a b hb S A n c l hl)
  obtain ⟨z, hz⟩ : ∃ z, ixEq l a = z := ⟨_, rfl⟩
  have hr := ixEq_any l a
  rw [hz] at HC hr
  have HR := hid hr
  clear hz hr hl hb
  go_enter Tryz.func31, Tryz.ntmps31
  go_wp2_with fail
  refine (HC.out).mono ?_
  rintro e w1 ⟨rfl, hx1⟩
  have HX1 := hid hx1
  clear hx1
  go_wp2
  go_ret
  exact ⟨ret_bool (by rw [← HR.out]), HX1.out⟩
end Go.Proofs.YtnlmhnbogleijaaGreatDoor
