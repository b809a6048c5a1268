/- decompilerref17.first, Leaders. -/
import Derived.Test.YtolbnhkdpbdhhaaCfgT
import Derived.Test.YtolbnhkdpbdhhaaIns7
import Derived.Test.YtolbnhkdpbdhhaaR3C
import Derived.Test.YtolbnhkdpbdhhaaCfgD
import Derived.Deep.CutRange
namespace Go.Proofs.Ytolbnhkdpbdhhaa
open Go.RowKit Go.Deco
set_option linter.unusedSimpArgs false
set_option linter.unusedVariables false
set_option maxRecDepth 100000

theorem info_insL {w : World} {l : List In} {A : Option Addr} {n c : Nat} (h : Sl insR w All (.slice A n c) l) : ∀ i ∈ l, InOk i := fun i hi => by
  obtain ⟨k, hk⟩ := List.getElem?_of_mem hi
  obtain ⟨b, off, -, hok, -⟩ := Sl.in_at h hk
  exact hok
set_option maxHeartbeats 4000000 in
theorem rfirst_any (w : World) (A E U B : Option Addr) (n c ne ce nu cu nb cb : Nat) (l : List In) (hl : Sl insR w All (.slice A n c) l) (k : Nat) (hk : k < n) :
    Calls Try.prog 36 #[.agg #[.slice A n c, .slice E ne ce, .slice U nu cu, .slice B nb cb], .int .i64 k] w fun e w' => e = .returned (.bool (firstB l k)) ∧ Ext w w' := by
  obtain ⟨W0, hW0⟩ : ∃ W0, w.alloc (.cells #[.slice A n c, .slice E ne ce, .slice U nu cu, .slice B nb cb] 36) = W0 := ⟨_, rfl⟩
  have hE : Ext w W0 := by rw [← hW0]; exact (Ext.refl w).alloc _
  have q0 : W0.cell? ⟨w.heap.size, 0, none⟩ = some (.slice A n c) := by rw [← hW0]; simp [go_sem]
  have q1 : W0.cell? ⟨w.heap.size, 1, none⟩ = some (.slice E ne ce) := by rw [← hW0]; simp [go_sem]
  have q2 : W0.cell? ⟨w.heap.size, 2, none⟩ = some (.slice U nu cu) := by rw [← hW0]; simp [go_sem]
  have q3 : W0.cell? ⟨w.heap.size, 3, none⟩ = some (.slice B nb cb) := by rw [← hW0]; simp [go_sem]
  have HE := hid hE
  have HLN := hid hl.len
  have hcap := hl.cap
  have HS := hid (hl.ext hE)
  obtain ⟨x, hx⟩ : ∃ x, l[k]? = some x := ⟨_, List.getElem?_eq_getElem (by have := HLN.out; omega)⟩
  obtain ⟨b, off, rfl, -, x0, -⟩ := Sl.in_at HS.out hx
  have HX := hid hx
  have Q0 := hid q0
  have X0 := hid x0
  have hfb : firstB l k = (l.take k).all fun y => decide (y.addr ≠ x.addr) := by unfold firstB; rw [hx]
  obtain ⟨r, hr⟩ : ∃ r, firstB l k = r := ⟨_, rfl⟩
  rw [hr] at hfb ⊢
  have HR := hid hfb
  clear hE hl hx hfb hr q1 q2 q3 x0
  go_enter Try.func36, Try.ntmps36
  go_wp2
  clear hW0 q0
  go_loopw [5] (fun i wr => ∃ j : Nat, j ≤ k ∧ i = .int .i64 j ∧ Hid (Ext W0 wr) ∧ Hid (∀ y ∈ l.take j, y.addr ≠ x.addr)) (fun i _ => k - (intOf i).toNat)
  case atStart => exact ⟨0, by omega, rfl, hid (Ext.refl _), hid (by simp)⟩
  case round =>
    obtain ⟨j, hj, rfl, HX1, HJ⟩ := hrel
    have q0 := HX1.out.cell Q0.out
    have x0 := HX1.out.cell X0.out
    by_cases h1 : j < k
    · obtain ⟨y, hy⟩ : ∃ y, l[j]? = some y := ⟨_, List.getElem?_eq_getElem (by have := HLN.out; omega)⟩
      obtain ⟨b', off', hA, -, y0, -⟩ := Sl.in_at (HS.out.ext HX1.out) hy
      cases hA
      have HY := hid hy
      have i1 : (j : Int) < (n : Int) := by omega
      have i2 : (k : Int) < (n : Int) := by omega
      clear hy
      by_cases hq : y.addr = x.addr
      · have n1 : ((y.addr : Int) == (x.addr : Int)) = true := by simp [hq]
        have hr : Hid (r = false) := hid (by
          rw [HR.out, Bool.eq_false_iff]
          intro h
          have := List.all_eq_true.1 h y (List.mem_of_getElem? (by rw [List.getElem?_take, if_pos h1]; exact HY.out))
          simp [hq] at this)
        clear hq
        go_wp2
        go_quiet (fail)
        go_wp2
        go_ret
        rw [hr.out]
        exact ⟨rfl, HE.out.trans (HX1.out.drewN _)⟩
      · have n1 : ((y.addr : Int) == (x.addr : Int)) = false := by simp; omega
        have HQ := hid hq
        clear hq
        go_wp2
        go_quiet (fail)
        go_wp2
        first
          | go_roundw
          | refine ⟨?rel, ?measure⟩
        case rel =>
          refine ⟨j + 1, by omega, by go_num, hid (HX1.out.drewN _), hid fun z hz => ?_⟩
          rw [take_snoc' HY.out] at hz
          rcases List.mem_append.1 hz with hz | hz
          · exact HJ.out z hz
          · rw [List.mem_singleton] at hz
            subst hz
            exact HQ.out
        case measure => simp [intOf]; omega
    · obtain rfl : j = k := by omega
      have hr : Hid (r = true) := hid (by
        rw [HR.out, List.all_eq_true]
        intro y hy
        simpa using HJ.out y hy)
      go_wp2
      go_ret
      rw [hr.out]
      exact ⟨rfl, HE.out.trans HX1.out⟩

/-- The ascending list of those addresses of instructions that Q holds of. -/
def PL (ins : List In) (Q : Nat → Prop) (M : List Nat) : Prop := ∃ P, M = asc P ∧ ∀ x, x ∈ P ↔ hasIn ins x = true ∧ Q x
namespace PL
variable {ins : List In} {Q Q' : Nat → Prop} {M : List Nat}
theorem same (h : PL ins Q M) (hq : ∀ x, Q' x ↔ Q x) : PL ins Q' M := by
  obtain ⟨P, h1, h2⟩ := h
  exact ⟨P, h1, fun x => by rw [h2, hq]⟩
theorem nil (h : ∀ x, ¬ Q x) : PL ins Q [] := ⟨[], rfl, fun x => by simp [h x]⟩
theorem add (h : PL ins Q M) {x : Nat} (hx : hasIn ins x = true) : PL ins (fun y => Q y ∨ y = x) (insOf M x) := by
  obtain ⟨P, h1, h2⟩ := h
  refine ⟨P ++ [x], by rw [asc_snoc, h1], fun y => ?_⟩
  rw [List.mem_append, h2, List.mem_singleton]
  constructor
  · rintro (⟨h3, h4⟩ | rfl)
    · exact ⟨h3, .inl h4⟩
    · exact ⟨hx, .inr rfl⟩
  · rintro ⟨h3, h4 | h4⟩
    · exact .inl ⟨h3, h4⟩
    · exact .inr h4
theorem skip (h : PL ins Q M) {x : Nat} (hx : hasIn ins x = false) : PL ins (fun y => Q y ∨ y = x) M := by
  obtain ⟨P, h1, h2⟩ := h
  refine ⟨P, h1, fun y => ?_⟩
  rw [h2]
  constructor
  · rintro ⟨h3, h4⟩
    exact ⟨h3, .inl h4⟩
  · rintro ⟨h3, h4 | h4⟩
    · exact ⟨h3, h4⟩
    · rw [h4, hx] at h3
      cases h3
theorem len (h : PL ins Q M) : M.length ≤ ins.length := by
  obtain ⟨P, rfl, h2⟩ := h
  have := nodup_sub_len (L := asc P) (E := ins.map fun i => i.addr) (pw_nodup (asc_pw P)) (fun x hx => by
    have := ((h2 x).1 (asc_mem.1 hx)).1
    unfold hasIn at this
    obtain ⟨i, hi⟩ := Option.isSome_iff_exists.1 this
    obtain ⟨e, hm⟩ := firstIn_addr hi
    exact List.mem_map.2 ⟨i, hm, e⟩)
  simpa using this
theorem lead {entries : List Nat} {tabs : List (List Nat)} {at_ : List Nat} (h : PL ins (Cand ins entries tabs at_) M) : M = leadL ins entries tabs at_ := by
  obtain ⟨P, rfl, h2⟩ := h
  unfold leadL
  refine asc_eq fun x => ?_
  rw [h2, List.mem_filter, candList_mem]
  exact and_comm
end PL
/-- What the first k instructions make leaders. -/
def QI (ins : List In) (entries : List Nat) (tabs : List (List Nat)) (at_ : List Nat) (k : Nat) (x : Nat) : Prop := x ∈ entries ∨ ∃ j i, j < k ∧ ins[j]? = some i ∧ firstB ins j = true ∧ x ∈ candI tabs at_ i
theorem QI_all {ins : List In} {entries : List Nat} {tabs : List (List Nat)} {at_ : List Nat} (x : Nat) : Cand ins entries tabs at_ x ↔ QI ins entries tabs at_ ins.length x := by
  unfold Cand QI
  constructor
  · rintro (h | ⟨a, i, hi, hx⟩)
    · exact .inl h
    · refine .inr ?_
      have hf := hi
      unfold firstIn at hf
      rw [List.find?_eq_some_iff_getElem] at hf
      obtain ⟨ha, j, hj, he, hb⟩ := hf
      have ha : i.addr = a := by simpa using ha
      refine ⟨j, i, hj, by rw [List.getElem?_eq_getElem hj, he], ?_, hx⟩
      unfold firstB
      rw [List.getElem?_eq_getElem hj, he]
      simp only []
      rw [List.all_eq_true]
      intro y hy
      obtain ⟨q, hq, rfl⟩ := List.mem_take_iff_getElem.1 hy
      have := hb q (by omega)
      rw [ha]
      simpa using this
  · rintro (h | ⟨j, i, hj, hi, hf, hx⟩)
    · exact .inl h
    · refine .inr ⟨i.addr, i, firstIn_hit (k := j) (fun y hy => ?_) hi rfl, hx⟩
      unfold firstB at hf
      rw [hi] at hf
      simpa using List.all_eq_true.1 hf y hy
theorem QI_skip {ins : List In} {entries : List Nat} {tabs : List (List Nat)} {at_ : List Nat} {k : Nat} (h : firstB ins k = false) (x : Nat) : QI ins entries tabs at_ (k + 1) x ↔ QI ins entries tabs at_ k x := by
  unfold QI
  constructor
  · rintro (h1 | ⟨j, i, hj, hi, hf, hx⟩)
    · exact .inl h1
    · refine .inr ⟨j, i, ?_, hi, hf, hx⟩
      rcases Nat.lt_or_ge j k with h2 | h2
      · exact h2
      · obtain rfl : j = k := by omega
        rw [h] at hf
        cases hf
  · rintro (h1 | ⟨j, i, hj, hi, hf, hx⟩)
    · exact .inl h1
    · exact .inr ⟨j, i, by omega, hi, hf, hx⟩
theorem QI_step {ins : List In} {entries : List Nat} {tabs : List (List Nat)} {at_ : List Nat} {k : Nat} {y : In} (hy : ins[k]? = some y) (h : firstB ins k = true) (x : Nat) : QI ins entries tabs at_ (k + 1) x ↔ QI ins entries tabs at_ k x ∨ x ∈ candI tabs at_ y := by
  unfold QI
  constructor
  · rintro (h1 | ⟨j, i, hj, hi, hf, hx⟩)
    · exact .inl (.inl h1)
    · rcases Nat.lt_or_ge j k with h2 | h2
      · exact .inl (.inr ⟨j, i, h2, hi, hf, hx⟩)
      · obtain rfl : j = k := by omega
        rw [hy] at hi
        cases hi
        exact .inr hx
  · rintro ((h1 | ⟨j, i, hj, hi, hf, hx⟩) | hx)
    · exact .inl h1
    · exact .inr ⟨j, i, by omega, hi, hf, hx⟩
    · exact .inr ⟨k, y, by omega, hy, h, hx⟩
end Go.Proofs.Ytolbnhkdpbdhhaa
