/- cfg: table, targets. -/
import Derived.Test.YtolbnhkdpbdhhaaCfgA
import Derived.Test.YtolbnhkdpbdhhaaU32I
import Derived.Test.YtolbnhkdpbdhhaaLit
namespace Go.Proofs.Ytolbnhkdpbdhhaa
open Go.RowKit Go.Deco
set_option linter.unusedSimpArgs false
set_option linter.unusedVariables false

abbrev u32sR : Rep (List Nat) := slR u32R
theorem tabOf_hit {tables : List (List Nat)} {at_ : List Nat} {a k : Nat} (h : ixN (fun y => y == a) at_ = k) : tabOf tables at_ a = tables[k]? := by
  unfold ixN at h
  unfold tabOf
  cases h2 : at_.findIdx? (fun y => y == a) with
  | none => rw [h2] at h; simp at h
  | some j =>
    rw [h2] at h
    simp at h
    obtain rfl : j = k := by omega
    rfl
theorem tabOf_miss {tables : List (List Nat)} {at_ : List Nat} {a : Nat} (h : ixN (fun y => y == a) at_ = -1) : tabOf tables at_ a = none := by
  unfold ixN at h
  unfold tabOf
  cases h2 : at_.findIdx? (fun y => y == a) with
  | none => rfl
  | some j => rw [h2] at h; simp at h
def TabIs (S : Nat → Prop) (wo w : World) (o : Option (List Nat)) (e : Ending) (w' : World) : Prop :=
  Ext w w' ∧ ∃ A c, e = .returned (.tuple #[.slice A (o.getD []).length c, .bool o.isSome]) ∧ Sl u32R wo S (.slice A (o.getD []).length c) (o.getD [])

set_option maxRecDepth 100000 in
set_option maxHeartbeats 4000000 in
theorem table_any (S : Nat → Prop) (wo w : World) (ho : Ext wo w) (mv : Option Nat) (T Q : Option Addr) (nt ct nq cq : Nat) (tabs : List (List Nat)) (at_ : List Nat) (ht : Sl u32sR wo S (.slice T nt ct) tabs) (hq : Sl u32R wo S (.slice Q nq cq) at_) (hn : nq ≤ 9223372036854775807) (a : Nat) :
    Calls Try.prog 30 #[.agg #[.map mv, .slice T nt ct, .slice Q nq cq], .int .u32 a] w (TabIs S wo w (tabOf tabs at_ a)) := by
  obtain ⟨W0, hW0⟩ : ∃ W0, w.alloc (.cells #[.map mv, .slice T nt ct, .slice Q nq cq] 65) = W0 := ⟨_, rfl⟩
  have hE : Ext w W0 := by rw [← hW0]; exact (Ext.refl w).alloc _
  have c1 : W0.cell? ⟨w.heap.size, 1, none⟩ = some (.slice T nt ct) := by rw [← hW0]; simp [go_sem]
  have c2 : W0.cell? ⟨w.heap.size, 2, none⟩ = some (.slice Q nq cq) := by rw [← hW0]; simp [go_sem]
  have HOO := hid ho
  have HLT := hid ht.len
  have hcap := ht.cap
  have HIX := hid (index32_any W0 S Q nq cq at_ (hq.ext (ho.trans hE)) hn a)
  have HE := hid hE
  have HT := hid ht
  have c1' := c1
  clear hE hq ht ho
  go_enter Try.func30, Try.ntmps30
  go_wp2_with fail
  clear hW0
  refine (HIX.out).mono ?_
  rintro e w1 ⟨rfl, hw1⟩
  subst hw1
  rcases ixN_cases (fun y => y == a) at_ with ⟨hx, -⟩ | ⟨k, x, hx, -, -, -⟩
  · rw [hx]
    have HX := hid (tabOf_miss (tables := tabs) hx)
    clear hx c1 c1' c2
    go_wp2
    go_ret2
    rw [HX.out]
    exact ⟨HE.out, none, 0, rfl, Sl.nil⟩
  · rw [hx]
    have HX := hid (tabOf_hit (tables := tabs) hx)
    clear hx c2
    by_cases h1 : k < nt
    · obtain ⟨l, hl⟩ : ∃ l, tabs[k]? = some l := ⟨_, List.getElem?_eq_getElem (by have := HLT.out; omega)⟩
      obtain ⟨b, off, A', c', rfl, hc, hs⟩ := Sl_ss_at HT.out hl
      have hc0 := HE.out.cell (HOO.out.cell hc)
      have HR := hid (HX.out.trans hl)
      have HSS := hid hs
      clear hl hc hs
      go_wp2
      go_ret2
      rw [HR.out]
      exact ⟨HE.out, A', c', rfl, HSS.out⟩
    · have HR : Hid (tabOf tabs at_ a = none) := hid (by rw [HX.out, List.getElem?_eq_none]; have := HLT.out; omega)
      go_wp2
      go_ret2
      rw [HR.out]
      exact ⟨HE.out, none, 0, rfl, Sl.nil⟩

/-- What targets returns. -/
def TgtIs (S : Nat → Prop) (w : World) (i : In) (l : List Nat) (e : Ending) (w' : World) : Prop :=
  Ext w w' ∧ ∃ A c, e = .returned (.slice A l.length c) ∧ Sl u32R w' All (.slice A l.length c) l ∧ ((i.op = 20 ∧ l = [i.imm]) ∨ Sl u32R w S (.slice A l.length c) l)

set_option maxRecDepth 100000 in
set_option maxHeartbeats 4000000 in
theorem targets_any (S : Nat → Prop) (w : World) (mv : Option Nat) (T Q : Option Addr) (nt ct nq cq : Nat) (tabs : List (List Nat)) (at_ : List Nat) (ht : Sl u32sR w S (.slice T nt ct) tabs) (hq : Sl u32R w S (.slice Q nq cq) at_) (hn : nq ≤ 9223372036854775807) (i : In) (hi : InOk i) :
    Calls Try.prog 55 #[.agg #[.map mv, .slice T nt ct, .slice Q nq cq], inV i] w (TgtIs S w i (tgtI tabs at_ i)) := by
  have hta := table_any
  obtain ⟨W0, hW0⟩ : ∃ W0, (w.alloc (.cells #[.map mv, .slice T nt ct, .slice Q nq cq] 65)).alloc (.cells #[.int .u32 i.addr, .int .u32 i.imm, .int .i64 i.op, .int .i64 i.form, .int .i64 i.width, .int .i64 i.cc, .int .i64 i.a, .int .i64 i.b, .int .i64 i.size] 61) = W0 := ⟨_, rfl⟩
  have hE : Ext w W0 := by rw [← hW0]; exact ((Ext.refl w).alloc _).alloc _
  have m0 : W0.cell? ⟨w.heap.size, 0, none⟩ = some (.map mv) := by rw [← hW0]; simp [go_sem]
  have m1 : W0.cell? ⟨w.heap.size, 1, none⟩ = some (.slice T nt ct) := by rw [← hW0]; simp [go_sem]
  have m2 : W0.cell? ⟨w.heap.size, 2, none⟩ = some (.slice Q nq cq) := by rw [← hW0]; simp [go_sem]
  have hB : Box9 W0 (w.heap.size + 1) i := by
    have := Box9.new (w.alloc (.cells #[.map mv, .slice T nt ct, .slice Q nq cq] 65)) i 61
    rw [World.size_alloc] at this
    rw [← hW0]
    exact this
  obtain ⟨c0, c1, c2, c3, c4, c5, c6, c7, c8⟩ := hB
  have HTA := hid (hta S w W0 hE mv T Q nt ct nq cq tabs at_ ht hq hn i.addr)
  have HE := hid hE
  have HI := hid hi.2.1
  obtain ⟨L, hL⟩ : ∃ L, tgtI tabs at_ i = L := ⟨_, rfl⟩
  rw [hL]
  have HL := hid hL
  have HT := hid ht
  have HQ := hid hq
  have e : inV i = .agg #[.int .u32 i.addr, .int .u32 i.imm, .int .i64 i.op, .int .i64 i.form, .int .i64 i.width, .int .i64 i.cc, .int .i64 i.a, .int .i64 i.b, .int .i64 i.size] := rfl
  rw [e]
  clear hE hta hi hL e c3 c4 c5 c6 c7 c8 ht hq
  go_enter Try.func55, Try.ntmps55
  by_cases z20 : i.op = 20
  · have HV : Hid (L = [i.imm]) := hid (by rw [← HL.out]; simp [tgtI, z20])
    have HZ := hid z20
    rw [z20] at c2
    clear z20
    go_wp2
    go_ret
    obtain rfl := HV.out
    refine ⟨HE.out.alloc _, some ⟨W0.heap.size, 0, none⟩, 1, rfl, ?_, .inl ⟨HZ.out, rfl⟩⟩
    exact sl_lit W0 [i.imm] (by simpa using HI.out) (by simp [maxLen]) _
  · have n20 : (i.op == 20) = false := by simpa using z20
    by_cases z2 : i.op = 21 ∨ i.op = 22
    · have HV : Hid (L = (tabOf tabs at_ i.addr).getD []) := hid (by rw [← HL.out]; simp [tgtI, z20, z2])
      have HZ := hid z20
      have HZ2 := hid z2
      clear z20
      have key : i.op = 21 ∨ ((i.op == 21) = false ∧ i.op = 22) := by
        rcases z2 with h | h
        · exact .inl h
        · exact .inr ⟨by rw [h]; rfl, h⟩
      rcases key with h | ⟨n21, h⟩
      all_goals
        rw [h] at c2 n20
        clear h z2
        go_wp2_with fail
        clear hW0 m0 m1 m2 c0 c1 c2
        refine (HTA.out).mono ?_
        rintro e w1 ⟨hx1, A, c, rfl, hsl⟩
        have HX1 := hid (HE.out.trans hx1)
        have HX0 := hid hx1
        have HSL := hid hsl
        have hvl := HV.out
        rw [← hvl] at HSL ⊢
        have HVL := hid hvl
        clear hx1 hsl hvl
        go_wp2
        go_ret
        refine ⟨HX1.out, A, c, rfl, (HSL.out.ext HX1.out).all, .inr HSL.out⟩
    · have HV : Hid (L = []) := hid (by rw [← HL.out]; simp [tgtI, z20, z2])
      have n21 : (i.op == 21) = false := by simp; omega
      have n22 : (i.op == 22) = false := by simp; omega
      clear z20 z2
      go_wp2
      go_ret
      obtain rfl := HV.out
      exact ⟨HE.out, none, 0, rfl, Sl.nil, .inr Sl.nil⟩
end Go.Proofs.Ytolbnhkdpbdhhaa
