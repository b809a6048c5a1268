/- The memory of a running program as plain data: regions and the bytes that were written. No walk in sight. -/
import Derived.Test.YtjfdbfbdkjfgpaaSpecSec
import Derived.Maps.Own
import Derived.Maps.OwnSet
import Derived.Maps.Views
namespace Go.Deco
open Go Go.RowKit

structure Reg where
  from_ : Nat
  data : List Nat
  wr : Bool
  ex : Bool

def regR : Rep Reg where
  size := 4
  pos := by omega
  rel w S cs s := ∃ dv, cs = [.int .u64 s.from_, dv, .bool s.wr, .bool s.ex] ∧ Sl u8R w S dv s.data ∧ s.from_ + s.data.length ≤ 4294967295 ∧ s.data.length ≤ 65536
  keep hk := fun ⟨dv, h1, h2, h3⟩ => ⟨dv, h1, h2.keep hk, h3⟩
  mono hk := fun ⟨dv, h1, h2, h3⟩ => ⟨dv, h1, h2.mono hk, h3⟩
  len := fun ⟨dv, h1, _⟩ => by rw [h1]; rfl
  one := fun ⟨dv, h1, h2, _⟩ u hu => by
    obtain ⟨A, c, rfl, _⟩ := h2.form
    rw [h1] at hu
    simp at hu
    rcases hu with rfl | rfl | rfl | rfl <;> rfl

theorem Sl.reg_at {w : World} {S : Nat → Prop} {A : Option Addr} {n c k : Nat} {l : List Reg} {s : Reg} (h : Sl regR w S (.slice A n c) l) (hk : l[k]? = some s) :
    ∃ b off dA dc, A = some ⟨b, off, none⟩ ∧ Sl u8R w S (.slice dA s.data.length dc) s.data ∧ s.from_ + s.data.length ≤ 4294967295 ∧ s.data.length ≤ 65536 ∧
      w.cell? ⟨b, off + k * 4, none⟩ = some (.int .u64 s.from_) ∧ w.cell? ⟨b, off + k * 4 + 1, none⟩ = some (.slice dA s.data.length dc) ∧ w.cell? ⟨b, off + k * 4 + 2, none⟩ = some (.bool s.wr) ∧
      w.cell? ⟨b, off + k * 4 + 3, none⟩ = some (.bool s.ex) := by
  obtain ⟨b, off, cs, hA, ⟨dv, hcs, hd, h1, h2⟩, hc⟩ := h.get hk
  obtain ⟨dA, dc, rfl, h3, h4⟩ := hd.form
  subst hcs
  exact ⟨b, off, dA, dc, hA, hd, h1, h2, by simpa [regR] using hc 0 _ rfl, by simpa [regR, Nat.add_assoc] using hc 1 _ rfl, by simpa [regR, Nat.add_assoc] using hc 2 _ rfl, by simpa [regR, Nat.add_assoc] using hc 3 _ rfl⟩

/-! ### What the map of written bytes holds -/
def mapOf (qk qe : IntKind) (D : DataW Unit) (k : Nat) : Option Nat :=
  if Maps.has D (.int qk k) = true then (match D.atKey (.int qk k) (.lit (.int qe 0)) with | .lit (.int _ c) => some c.toNat | _ => none) else none

theorem mapOf_empty (qk qe : IntKind) : mapOf qk qe (.map []) = fun _ => none := by
  funext k
  rw [mapOf, if_neg (by simp [Maps.has])]
theorem isKeyLit_int (qk : IntKind) (k : Int) : WideAt.IsKeyLit (.int qk k) := by simp [WideAt.IsKeyLit]
theorem mapOf_put {qk qe : IntKind} {D : DataW Unit} (hD : Maps.IsMap D) (k x : Nat) :
    mapOf qk qe (D.put (.int qk k) (.lit (.int qe x))) = fun j => if j = k then some x else mapOf qk qe D j := by
  funext j
  by_cases h : j = k
  · subst h
    rw [if_pos rfl, mapOf, if_pos (Maps.has_put_same hD (isKeyLit_int _ _) _), Maps.atKey_put_same hD (isKeyLit_int _ _)]
    simp
  · have hne : (Lit.int qk (j : Int)) ≠ Lit.int qk (k : Int) := by
      intro e
      injection e with _ e
      exact h (by exact_mod_cast e)
    rw [if_neg h, mapOf, mapOf, Maps.has_put_other hne, Maps.atKey_put_other hne]
theorem mapOf_some {qk qe : IntKind} {D : DataW Unit} {k : Nat} {c : Int} (h : D.atKey (.int qk k) (.lit (.int qe 0)) = .lit (.int qe c)) (hh : Maps.has D (.int qk k) = true) : mapOf qk qe D k = some c.toNat := by
  rw [mapOf, if_pos hh, h]
theorem mapOf_none {qk qe : IntKind} {D : DataW Unit} {k : Nat} (hh : Maps.has D (.int qk k) = false) : mapOf qk qe D k = none := by
  rw [mapOf, if_neg (by simp [hh])]

/-! ### What the methods compute -/
def Reg.has (r : Reg) (a : Nat) : Bool := decide (r.from_ ≤ a) && decide (a < r.from_ + r.data.length)
def findReg (l : List Reg) (a : Nat) : Option Reg := l.find? (fun r => r.has a)
def mappedReg (l : List Reg) (a n : Nat) : Option Reg :=
  match findReg l a with
  | none => none
  | some r => if r.from_ + r.data.length - a < n then none else some r
def byteAt (r : Reg) (M : Nat → Option Nat) (a : Nat) : Nat := (M a).getD (r.data.getD (a - r.from_) 0)
def presentOf (r : Reg) (M : Nat → Option Nat) (a n : Nat) : List Nat := (List.range (min n (r.from_ + r.data.length - a))).map fun k => byteAt r M (a + k)
def leNum : List Nat → Nat
  | [] => 0
  | b :: l => b + 256 * leNum l
def okWidth (n : Int) : Bool := n == 1 || n == 2 || n == 4

theorem findReg_hit {l : List Reg} {a k : Nat} {r : Reg} (h : ∀ j, j < k → ∀ y, l[j]? = some y → y.has a = false) (hk : l[k]? = some r) (hr : r.has a = true) : findReg l a = some r := by
  obtain ⟨hlt, rfl⟩ := List.getElem?_eq_some_iff.1 hk
  rw [findReg, List.find?_eq_some_iff_getElem]
  exact ⟨hr, k, hlt, rfl, fun j hj => by have := h j hj _ (List.getElem?_eq_getElem (by omega)); simp [this]⟩
theorem findReg_miss {l : List Reg} {a : Nat} (h : ∀ j, j < l.length → ∀ y, l[j]? = some y → y.has a = false) : findReg l a = none := by
  rw [findReg, List.find?_eq_none]
  intro x hx
  obtain ⟨k, hk, rfl⟩ := List.getElem_of_mem hx
  have := h k hk _ (List.getElem?_eq_getElem hk)
  simp [this]

/-- The bytes of a region from place d on, the first k of them as they are now. -/
def mixOf (r : Reg) (M : Nat → Option Nat) (d m k : Nat) : List Nat := (List.range m).map fun j => if j < k then byteAt r M (r.from_ + d + j) else r.data.getD (d + j) 0
theorem mixOf_zero (r : Reg) (M : Nat → Option Nat) (d m : Nat) (h : m + d ≤ r.data.length) : mixOf r M d m 0 = (r.data.drop d).take m := by
  apply List.ext_getElem?
  intro j
  by_cases hj : j < m
  · simp [mixOf, hj, List.getElem?_drop, List.getD, List.getElem?_eq_getElem (show d + j < r.data.length by omega)]
  · rw [List.getElem?_eq_none (by simp [mixOf]; omega), List.getElem?_eq_none (by simp; omega)]
theorem mixOf_all (r : Reg) (M : Nat → Option Nat) (d m : Nat) : mixOf r M d m m = (List.range m).map fun j => byteAt r M (r.from_ + d + j) := by
  apply List.map_congr_left
  intro j hj
  rw [if_pos (by simpa using hj)]
theorem mixOf_set (r : Reg) (M : Nat → Option Nat) (d m k : Nat) (hk : k < m) (x : Nat) (hx : M (r.from_ + d + k) = some x) : (mixOf r M d m k).set k x = mixOf r M d m (k + 1) := by
  apply List.ext_getElem?
  intro j
  by_cases hj : j < m
  · rw [List.getElem?_set]
    by_cases e : k = j
    · subst e
      simp [mixOf, hk, byteAt, hx]
    · have e1 : (j < k + 1) = (j < k) := by simp; omega
      simp [mixOf, hj, e, e1]
  · rw [List.getElem?_eq_none (by simp [mixOf]; omega), List.getElem?_eq_none (by simp [mixOf]; omega)]
theorem mixOf_skip (r : Reg) (M : Nat → Option Nat) (d m k : Nat) (hx : M (r.from_ + d + k) = none) : mixOf r M d m k = mixOf r M d m (k + 1) := by
  apply List.map_congr_left
  intro j hj
  by_cases e : j = k
  · subst e
    have h2 : r.from_ + d + j - r.from_ = d + j := by omega
    simp [byteAt, hx, h2]
  · have e1 : (j < k + 1) = (j < k) := by simp; omega
    simp [e1]
theorem mixOf_get (r : Reg) (M : Nat → Option Nat) (d m k : Nat) (hk : k < m) : ∃ x, (mixOf r M d m k)[k]? = some x := ⟨_, List.getElem?_eq_getElem (by simpa [mixOf] using hk)⟩
theorem mixOf_length (r : Reg) (M : Nat → Option Nat) (d m k : Nat) : (mixOf r M d m k).length = m := by simp [mixOf]
theorem presentOf_eq (r : Reg) (M : Nat → Option Nat) (d m q : Nat) (h : m = min q (r.data.length - d)) : presentOf r M (r.from_ + d) q = mixOf r M d m m := by
  rw [mixOf_all, presentOf, h, show r.from_ + r.data.length - (r.from_ + d) = r.data.length - d by omega]

theorem leNum_snoc : ∀ (l : List Nat) (y : Nat), leNum (l ++ [y]) = leNum l + 256 ^ l.length * y
  | [], y => by simp [leNum]
  | b :: l, y => by
    rw [List.cons_append, leNum, leNum, leNum_snoc l y, List.length_cons, Nat.pow_succ, Nat.mul_add, Nat.add_assoc, ← Nat.mul_assoc, Nat.mul_comm (256 ^ l.length) 256]
theorem leNum_lt : ∀ {l : List Nat}, (∀ x ∈ l, x < 256) → leNum l < 256 ^ l.length
  | [], _ => by simp [leNum]
  | b :: l, h => by
    have h1 := h b (by simp)
    have h2 := leNum_lt (l := l) (fun x hx => h x (by simp [hx]))
    rw [leNum, List.length_cons, Nat.pow_succ]
    omega
theorem leNum_take {l : List Nat} {j y : Nat} (h : l[j]? = some y) : leNum (l.take (j + 1)) = leNum (l.take j) + 256 ^ j * y := by
  have hj := (List.getElem?_eq_some_iff.1 h).1
  rw [take_snoc' h, leNum_snoc, List.length_take, Nat.min_eq_left (by omega)]
theorem leNum_take_lt {l : List Nat} {j y : Nat} (h : l[j]? = some y) (hb : ∀ x ∈ l, x < 256) : leNum (l.take j) < 256 ^ j := by
  have hj := (List.getElem?_eq_some_iff.1 h).1
  have := leNum_lt (l := l.take j) (fun x hx => hb x (List.mem_of_mem_take hx))
  rwa [List.length_take, Nat.min_eq_left (by omega)] at this
theorem or_shift (t y i : Nat) (ht : t < 2 ^ i) (h1 : t < 4294967296) (h2 : y * 2 ^ i < 4294967296) : bits .or .u32 (t : Int) ((y * 2 ^ i : Nat) : Int) = ((t + y * 2 ^ i : Nat) : Int) := by
  rw [u32_or_nat t (y * 2 ^ i) h1 h2, Nat.mul_comm y, Nat.or_comm, ← Nat.two_pow_add_eq_or_of_lt ht, Nat.add_comm]

/-- A memory at block mb: its regions, and the map of written bytes in block bm (of at most n entries). -/
def MemAt (P : Program) (tk te : TypeId) (w : World) (mb bm : Nat) (regs : List Reg) (M : Nat → Option Nat) (n : Nat) : Prop :=
  ∃ A c D, w.cell? ⟨mb, 0, none⟩ = some (.slice A regs.length c) ∧ w.cell? ⟨mb, 1, none⟩ = some (.map (some bm)) ∧
    Sl regR w All (.slice A regs.length c) regs ∧ w.ownsMap P tk (plainElem (H := Unit) P te) bm n D ∧ M = mapOf .u32 .u8 D

theorem MemAt.ext {P : Program} {tk te : TypeId} {w w' : World} {mb bm n : Nat} {regs : List Reg} {M : Nat → Option Nat} (h : MemAt P tk te w mb bm regs M n) (he : Ext w w') : MemAt P tk te w' mb bm regs M n := by
  obtain ⟨A, c, D, h0, h1, h2, h3, h4⟩ := h
  exact ⟨A, c, D, he.cell h0, he.cell h1, h2.ext he, h3.kept (he.grownBy none) (by simp), h4⟩
theorem MemAt.mono {P : Program} {tk te : TypeId} {w : World} {mb bm n n' : Nat} {regs : List Reg} {M : Nat → Option Nat} (h : MemAt P tk te w mb bm regs M n) (hn : n ≤ n') : MemAt P tk te w mb bm regs M n' := by
  obtain ⟨A, c, D, h0, h1, h2, h3, h4⟩ := h
  exact ⟨A, c, D, h0, h1, h2, h3.mono hn, h4⟩
theorem mappedReg_some {l : List Reg} {a n : Nat} {r : Reg} (h : mappedReg l a n = some r) : findReg l a = some r ∧ ¬ r.from_ + r.data.length - a < n := by
  unfold mappedReg at h
  split at h
  · cases h
  · rename_i r' hr'
    split at h
    · cases h
    · cases h
      exact ⟨hr', by assumption⟩

theorem keep_map {P : Program} {k : TypeId} {R : Value → Option (DataW Unit × List MemPlace)} {w w' : World} {bm n : Nat} {D : DataW Unit} (hm : w.ownsMap P k R bm n D) (hg : w.grownBy w' (some bm)) {b : Nat} (hb : IsCells w b) : w'.heap[b]? = w.heap[b]? := by
  refine hg.block b hb.lt (fun e => ?_)
  injection e with e
  subst e
  obtain ⟨c, e, f, h⟩ := hb
  obtain ⟨es, clock, h', _⟩ := hm
  rw [h] at h'
  cases h'
theorem cell_map {P : Program} {k : TypeId} {R : Value → Option (DataW Unit × List MemPlace)} {w w' : World} {bm n : Nat} {D : DataW Unit} (hm : w.ownsMap P k R bm n D) (hg : w.grownBy w' (some bm)) {p : Addr} {v : Value} (hc : w.cell? p = some v) : w'.cell? p = some v :=
  (World.cell?_of_block (w := w) (keep_map hm hg (isCells_of hc))).trans hc
theorem grownBy_drew {w w' : World} {row : Option Nat} (h : w.drew.grownBy w' row) : w.grownBy w' row := ⟨h.os, h.tape, h.output, h.size, h.block⟩
theorem grownBy_same {a b c : World} {g : Nat} (h : a.grownBy b (some g)) (k : b.grownBy c (some g)) : a.grownBy c (some g) :=
  ⟨k.os.trans h.os, k.tape.trans h.tape, k.output.trans h.output, Nat.le_trans h.size k.size, fun i hi hne => (k.block i (Nat.lt_of_lt_of_le hi h.size) hne).trans (h.block i hi hne)⟩
/-- One byte written. -/
theorem MemAt.put {P : Program} {tk te : TypeId} {w w' : World} {mb bm n n' : Nat} {regs : List Reg} {M : Nat → Option Nat} {D : DataW Unit} {A : Option Addr} {c : Nat} {a x : Nat} (K : Maps.Keyed P tk)
    (h0 : w.cell? ⟨mb, 0, none⟩ = some (.slice A regs.length c)) (h1 : w.cell? ⟨mb, 1, none⟩ = some (.map (some bm)))
    (h2 : Sl regR w All (.slice A regs.length c) regs) (h3 : w.ownsMap P tk (plainElem (H := Unit) P te) bm n D) (h4 : M = mapOf .u32 .u8 D) (hg : w.grownBy w' (some bm))
    (h5 : w'.ownsMap P tk (plainElem (H := Unit) P te) bm n' (D.put (.int .u32 (a : Nat)) (.lit (.int .u8 (x : Nat))))) :
    MemAt P tk te w' mb bm regs (fun j => if j = a then some x else M j) n' := by
  refine ⟨A, c, _, cell_map h3 hg h0, cell_map h3 hg h1, h2.keep fun b _ hb => keep_map h3 hg hb, h5, ?_⟩
  rw [mapOf_put (h3.tidy K).isMap, h4]

end Go.Deco
