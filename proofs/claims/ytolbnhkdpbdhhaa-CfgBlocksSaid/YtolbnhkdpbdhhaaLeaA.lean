/- decompilerref17.first, Leaders. decompilerref17.Leaders. -/
import Derived.Test.YtolbnhkdpbdhhaaCfgT
import Derived.Test.YtolbnhkdpbdhhaaIns7
import Derived.Test.YtolbnhkdpbdhhaaR3C
import Derived.Test.YtolbnhkdpbdhhaaCfgD
import Derived.Deep.CutRange
import Derived.Test.YtolbnhkdpbdhhaaReg
import Derived.Test.YtolbnhkdpbdhhaaSplit
namespace Go.Proofs.Ytolbnhkdpbdhhaa
open Go.RowKit Go.Deco
set_option linter.unusedSimpArgs false
set_option linter.unusedVariables false
set_option maxRecDepth 100000

theorem info_insL {w : World} {l : List In} {A : Option Addr} {n c : Nat} (h : Sl insR w All (.slice A n c) l) : ∀ i ∈ l, InOk i := fun i hi => by
  obtain ⟨k, hk⟩ := List.getElem?_of_mem hi
  obtain ⟨b, off, -, hok, -⟩ := Sl.in_at h hk
  exact hok
set_option maxHeartbeats 4000000 in
theorem rfirst_any (w : World) (A E U B : Option Addr) (n c ne ce nu cu nb cb : Nat) (l : List In) (hl : Sl insR w All (.slice A n c) l) (k : Nat) (hk : k < n) :
    Calls Try.prog 36 #[.agg #[.slice A n c, .slice E ne ce, .slice U nu cu, .slice B nb cb], .int .i64 k] w fun e w' => e = .returned (.bool (firstB l k)) ∧ Ext w w' := by
  obtain ⟨W0, hW0⟩ : ∃ W0, w.alloc (.cells #[.slice A n c, .slice E ne ce, .slice U nu cu, .slice B nb cb] 36) = W0 := ⟨_, rfl⟩
  have hE : Ext w W0 := by rw [← hW0]; exact (Ext.refl w).alloc _
  have q0 : W0.cell? ⟨w.heap.size, 0, none⟩ = some (.slice A n c) := by rw [← hW0]; simp [go_sem]
  have q1 : W0.cell? ⟨w.heap.size, 1, none⟩ = some (.slice E ne ce) := by rw [← hW0]; simp [go_sem]
  have q2 : W0.cell? ⟨w.heap.size, 2, none⟩ = some (.slice U nu cu) := by rw [← hW0]; simp [go_sem]
  have q3 : W0.cell? ⟨w.heap.size, 3, none⟩ = some (.slice B nb cb) := by rw [← hW0]; simp [go_sem]
  have HE := hid hE
  have HLN := hid hl.len
  have hcap := hl.cap
  have HS := hid (hl.ext hE)
  obtain ⟨x, hx⟩ : ∃ x, l[k]? = some x := ⟨_, List.getElem?_eq_getElem (by have := HLN.out; omega)⟩
  obtain ⟨b, off, rfl, -, x0, -⟩ := Sl.in_at HS.out hx
  have HX := hid hx
  have Q0 := hid q0
  have X0 := hid x0
  have hfb : firstB l k = (l.take k).all fun y => decide (y.addr ≠ x.addr) := by unfold firstB; rw [hx]
  obtain ⟨r, hr⟩ : ∃ r, firstB l k = r := ⟨_, rfl⟩
  rw [hr] at hfb ⊢
  have HR := hid hfb
  clear hE hl hx hfb hr q1 q2 q3 x0
  go_enter Try.func36, Try.ntmps36
  go_wp2
  clear hW0 q0
  go_loopw [5] (fun i wr => ∃ j : Nat, j ≤ k ∧ i = .int .i64 j ∧ Hid (Ext W0 wr) ∧ Hid (∀ y ∈ l.take j, y.addr ≠ x.addr)) (fun i _ => k - (intOf i).toNat)
  case atStart => exact ⟨0, by omega, rfl, hid (Ext.refl _), hid (by simp)⟩
  case round =>
    obtain ⟨j, hj, rfl, HX1, HJ⟩ := hrel
    have q0 := HX1.out.cell Q0.out
    have x0 := HX1.out.cell X0.out
    by_cases h1 : j < k
    · obtain ⟨y, hy⟩ : ∃ y, l[j]? = some y := ⟨_, List.getElem?_eq_getElem (by have := HLN.out; omega)⟩
      obtain ⟨b', off', hA, -, y0, -⟩ := Sl.in_at (HS.out.ext HX1.out) hy
      cases hA
      have HY := hid hy
      have i1 : (j : Int) < (n : Int) := by omega
      have i2 : (k : Int) < (n : Int) := by omega
      clear hy
      by_cases hq : y.addr = x.addr
      · have n1 : ((y.addr : Int) == (x.addr : Int)) = true := by simp [hq]
        have hr : Hid (r = false) := hid (by
          rw [HR.out, Bool.eq_false_iff]
          intro h
          have := List.all_eq_true.1 h y (List.mem_of_getElem? (by rw [List.getElem?_take, if_pos h1]; exact HY.out))
          simp [hq] at this)
        clear hq
        go_wp2
        go_quiet (fail)
        go_wp2
        go_ret
        rw [hr.out]
        exact ⟨rfl, HE.out.trans (HX1.out.drewN _)⟩
      · have n1 : ((y.addr : Int) == (x.addr : Int)) = false := by simp; omega
        have HQ := hid hq
        clear hq
        go_wp2
        go_quiet (fail)
        go_wp2
        first
          | go_roundw
          | refine ⟨?rel, ?measure⟩
        case rel =>
          refine ⟨j + 1, by omega, by go_num, hid (HX1.out.drewN _), hid fun z hz => ?_⟩
          rw [take_snoc' HY.out] at hz
          rcases List.mem_append.1 hz with hz | hz
          · exact HJ.out z hz
          · rw [List.mem_singleton] at hz
            subst hz
            exact HQ.out
        case measure => simp [intOf]; omega
    · obtain rfl : j = k := by omega
      have hr : Hid (r = true) := hid (by
        rw [HR.out, List.all_eq_true]
        intro y hy
        simpa using HJ.out y hy)
      go_wp2
      go_ret
      rw [hr.out]
      exact ⟨rfl, HE.out.trans HX1.out⟩

/-- The ascending list of those addresses of instructions that Q holds of. -/
def PL (ins : List In) (Q : Nat → Prop) (M : List Nat) : Prop := ∃ P, M = asc P ∧ ∀ x, x ∈ P ↔ hasIn ins x = true ∧ Q x
namespace PL
variable {ins : List In} {Q Q' : Nat → Prop} {M : List Nat}
theorem same (h : PL ins Q M) (hq : ∀ x, Q' x ↔ Q x) : PL ins Q' M := by
  obtain ⟨P, h1, h2⟩ := h
  exact ⟨P, h1, fun x => by rw [h2, hq]⟩
theorem nil (h : ∀ x, ¬ Q x) : PL ins Q [] := ⟨[], rfl, fun x => by simp [h x]⟩
theorem add (h : PL ins Q M) {x : Nat} (hx : hasIn ins x = true) : PL ins (fun y => Q y ∨ y = x) (insOf M x) := by
  obtain ⟨P, h1, h2⟩ := h
  refine ⟨P ++ [x], by rw [asc_snoc, h1], fun y => ?_⟩
  rw [List.mem_append, h2, List.mem_singleton]
  constructor
  · rintro (⟨h3, h4⟩ | rfl)
    · exact ⟨h3, .inl h4⟩
    · exact ⟨hx, .inr rfl⟩
  · rintro ⟨h3, h4 | h4⟩
    · exact .inl ⟨h3, h4⟩
    · exact .inr h4
theorem skip (h : PL ins Q M) {x : Nat} (hx : hasIn ins x = false) : PL ins (fun y => Q y ∨ y = x) M := by
  obtain ⟨P, h1, h2⟩ := h
  refine ⟨P, h1, fun y => ?_⟩
  rw [h2]
  constructor
  · rintro ⟨h3, h4⟩
    exact ⟨h3, .inl h4⟩
  · rintro ⟨h3, h4 | h4⟩
    · exact ⟨h3, h4⟩
    · rw [h4, hx] at h3
      cases h3
theorem len (h : PL ins Q M) : M.length ≤ ins.length := by
  obtain ⟨P, rfl, h2⟩ := h
  have := nodup_sub_len (L := asc P) (E := ins.map fun i => i.addr) (pw_nodup (asc_pw P)) (fun x hx => by
    have := ((h2 x).1 (asc_mem.1 hx)).1
    unfold hasIn at this
    obtain ⟨i, hi⟩ := Option.isSome_iff_exists.1 this
    obtain ⟨e, hm⟩ := firstIn_addr hi
    exact List.mem_map.2 ⟨i, hm, e⟩)
  simpa using this
theorem lead {entries : List Nat} {tabs : List (List Nat)} {at_ : List Nat} (h : PL ins (Cand ins entries tabs at_) M) : M = leadL ins entries tabs at_ := by
  obtain ⟨P, rfl, h2⟩ := h
  unfold leadL
  refine asc_eq fun x => ?_
  rw [h2, List.mem_filter, candList_mem]
  exact and_comm
end PL
/-- What the first k instructions make leaders. -/
def QI (ins : List In) (entries : List Nat) (tabs : List (List Nat)) (at_ : List Nat) (k : Nat) (x : Nat) : Prop := x ∈ entries ∨ ∃ j i, j < k ∧ ins[j]? = some i ∧ firstB ins j = true ∧ x ∈ candI tabs at_ i
theorem QI_all {ins : List In} {entries : List Nat} {tabs : List (List Nat)} {at_ : List Nat} (x : Nat) : Cand ins entries tabs at_ x ↔ QI ins entries tabs at_ ins.length x := by
  unfold Cand QI
  constructor
  · rintro (h | ⟨a, i, hi, hx⟩)
    · exact .inl h
    · refine .inr ?_
      have hf := hi
      unfold firstIn at hf
      rw [List.find?_eq_some_iff_getElem] at hf
      obtain ⟨ha, j, hj, he, hb⟩ := hf
      have ha : i.addr = a := by simpa using ha
      refine ⟨j, i, hj, by rw [List.getElem?_eq_getElem hj, he], ?_, hx⟩
      unfold firstB
      rw [List.getElem?_eq_getElem hj, he]
      simp only []
      rw [List.all_eq_true]
      intro y hy
      obtain ⟨q, hq, rfl⟩ := List.mem_take_iff_getElem.1 hy
      have := hb q (by omega)
      rw [ha]
      simpa using this
  · rintro (h | ⟨j, i, hj, hi, hf, hx⟩)
    · exact .inl h
    · refine .inr ⟨i.addr, i, firstIn_hit (k := j) (fun y hy => ?_) hi rfl, hx⟩
      unfold firstB at hf
      rw [hi] at hf
      simpa using List.all_eq_true.1 hf y hy
theorem QI_skip {ins : List In} {entries : List Nat} {tabs : List (List Nat)} {at_ : List Nat} {k : Nat} (h : firstB ins k = false) (x : Nat) : QI ins entries tabs at_ (k + 1) x ↔ QI ins entries tabs at_ k x := by
  unfold QI
  constructor
  · rintro (h1 | ⟨j, i, hj, hi, hf, hx⟩)
    · exact .inl h1
    · refine .inr ⟨j, i, ?_, hi, hf, hx⟩
      rcases Nat.lt_or_ge j k with h2 | h2
      · exact h2
      · obtain rfl : j = k := by omega
        rw [h] at hf
        cases hf
  · rintro (h1 | ⟨j, i, hj, hi, hf, hx⟩)
    · exact .inl h1
    · exact .inr ⟨j, i, by omega, hi, hf, hx⟩
theorem QI_step {ins : List In} {entries : List Nat} {tabs : List (List Nat)} {at_ : List Nat} {k : Nat} {y : In} (hy : ins[k]? = some y) (h : firstB ins k = true) (x : Nat) : QI ins entries tabs at_ (k + 1) x ↔ QI ins entries tabs at_ k x ∨ x ∈ candI tabs at_ y := by
  unfold QI
  constructor
  · rintro (h1 | ⟨j, i, hj, hi, hf, hx⟩)
    · exact .inl (.inl h1)
    · rcases Nat.lt_or_ge j k with h2 | h2
      · exact .inl (.inr ⟨j, i, h2, hi, hf, hx⟩)
      · obtain rfl : j = k := by omega
        rw [hy] at hi
        cases hi
        exact .inr hx
  · rintro ((h1 | ⟨j, i, hj, hi, hf, hx⟩) | hx)
    · exact .inl h1
    · exact .inr ⟨j, i, by omega, hi, hf, hx⟩
    · exact .inr ⟨k, y, by omega, hy, h, hx⟩
end Go.Proofs.Ytolbnhkdpbdhhaa

namespace Go.Proofs.Ytolbnhkdpbdhhaa
open Go.RowKit Go.Deco
set_option linter.unusedSimpArgs false
set_option linter.unusedVariables false
set_option maxRecDepth 100000

set_option maxHeartbeats 4000000 in
theorem rleaders_any (w : World) (A E U B T Q : Option Addr) (n c ne ce nu cu nb cb nt ct nq cq : Nat) (ins : List In) (entries : List Nat) (tabs : List (List Nat)) (at_ : List Nat) (hi : Sl insR w All (.slice A n c) ins) (he : Sl u32R w All (.slice E ne ce) entries)
    (ht : Sl u32sR w All (.slice T nt ct) tabs) (hq : Sl u32R w All (.slice Q nq cq) at_) (hn : n ≤ 1000) :
    Calls Try.prog 17 #[.agg #[.slice A n c, .slice E ne ce, .slice U nu cu, .slice B nb cb], .slice T nt ct, .slice Q nq cq] w (ListOf w (leadL ins entries tabs at_)) := by
  obtain ⟨W0, hW0⟩ : ∃ W0, w.alloc (.cells #[.slice A n c, .slice E ne ce, .slice U nu cu, .slice B nb cb] 36) = W0 := ⟨_, rfl⟩
  have hE : Ext w W0 := by rw [← hW0]; exact (Ext.refl w).alloc _
  have q0 : W0.cell? ⟨w.heap.size, 0, none⟩ = some (.slice A n c) := by rw [← hW0]; simp [go_sem]
  have q1 : W0.cell? ⟨w.heap.size, 1, none⟩ = some (.slice E ne ce) := by rw [← hW0]; simp [go_sem]
  have q2 : W0.cell? ⟨w.heap.size, 2, none⟩ = some (.slice U nu cu) := by rw [← hW0]; simp [go_sem]
  have q3 : W0.cell? ⟨w.heap.size, 3, none⟩ = some (.slice B nb cb) := by rw [← hW0]; simp [go_sem]
  have HE := hid hE
  have hok := info_insL hi
  have HLN := hid hi.len
  have HLE := hid he.len
  have hcap := hi.cap
  have hcape := he.cap
  have HS := hid (hi.ext hE)
  have HSE := hid (he.ext hE)
  have HH := hid (fun W (h : Ext W0 W) a => rhas_any W A E U B n c ne ce nu cu nb cb ins ((hi.ext hE).ext h) a)
  have HF := hid (fun W (h : Ext W0 W) k hk => rfirst_any W A E U B n c ne ce nu cu nb cb ins ((hi.ext hE).ext h) k hk)
  have HTG := hid (fun W (h : Ext W0 W) i (hi : InOk i) => rtargets_any All W T Q nt ct nq cq tabs at_ ((ht.ext hE).ext h) ((hq.ext hE).ext h) i hi)
  have HIN := hid (fun W A' m c' M (h : Sl u32R W All (.slice A' m c') M) hm x hx => rinsert_any W A' m c' M h hm x hx)
  have HOK := hid hok
  have HNN := hid hn
  have Q0 := hid q0
  have Q1 := hid q1
  have Q2 := hid q2
  have Q3 := hid q3
  have HP0 : Hid (PL ins (fun x => x ∈ entries.take 0) []) := hid (PL.nil (by simp))
  clear hi he ht hq hok hn hE
  go_enter Try.func17, Try.ntmps17
  go_wp2
  clear hW0 q0 q1 q2 q3
  go_loopw [7, 8] (fun v i wr => ∃ (k : Nat) (A' : Option Addr) (c' : Nat) (M : List Nat), k ≤ ne ∧ i = .int .i64 k ∧ v = .slice A' M.length c' ∧ Hid (Ext W0 wr) ∧ Hid (Sl u32R wr All (.slice A' M.length c') M) ∧ Hid (PL ins (fun x => x ∈ entries.take k) M)) (fun _ i _ => ne - (intOf i).toNat)
  case atStart => exact ⟨0, none, 0, [], by omega, rfl, rfl, hid (Ext.refl _), hid Sl.nil, HP0⟩
  case round =>
    obtain ⟨k, A', c', M, hk, rfl, rfl, HXR, HSM, HP⟩ := hrel
    have q0 := HXR.out.cell Q0.out
    have q1 := HXR.out.cell Q1.out
    have q2 := HXR.out.cell Q2.out
    have q3 := HXR.out.cell Q3.out
    have HML : Hid (M.length ≤ 1000000) := hid (by have := HP.out.len; have := HLN.out; have := HNN.out; omega)
    by_cases h1 : k < ne
    · obtain ⟨y, hy⟩ : ∃ y, entries[k]? = some y := ⟨_, List.getElem?_eq_getElem (by have := HLE.out; omega)⟩
      obtain ⟨b, off, rfl, ey, hy32⟩ := (HSE.out.ext HXR.out).num_at hy
      have HQ : Hid (∀ x, x ∈ entries.take (k + 1) ↔ (x ∈ entries.take k ∨ x = y)) := hid (fun x => by rw [take_snoc' hy, List.mem_append, List.mem_singleton])
      have i1 : (k : Int) < (ne : Int) := by omega
      have i0 : (0 : Int) ≤ (k : Int) := by omega
      clear hy
      obtain ⟨g, hg⟩ : ∃ g, hasIn ins y = g := ⟨_, rfl⟩
      have HG := hid hg
      have HHY := hid (fun W h => HH.out W h y)
      rw [hg] at HHY
      clear hg
      go_wp2_with fail
      refine wp_region_held_drew (S := (fun w' => w'.cell? ⟨w.heap.size, 0, none⟩ = some (.slice A n c) ∧ w'.cell? ⟨w.heap.size, 1, none⟩ = some (.slice (some ⟨b, off, none⟩) ne ce) ∧ w'.cell? ⟨w.heap.size, 2, none⟩ = some (.slice U nu cu) ∧ w'.cell? ⟨w.heap.size, 3, none⟩ = some (.slice B nb cb) ∧ w'.cell? ⟨b, off + k, none⟩ = some (.int .u32 y))) (by kernel_rfl) ⟨q0, q1, q2, q3, ey⟩ (fun hSg1q0 => ?_)
      refine wpAnyH_takeL (i := 0) (v := ?g1qv0) rfl (by kernel_rfl) (by kernel_rfl) (by kernel_rfl) (fun _ _ _ h => h) (Or.inl ⟨by rfl, ?g1qy0⟩) (by assumption) ?g1qr0
      case g1qy0 => first | (intro w hSw; (try dsimp only at hSw); go_simp; done) | (intro w hSw; (try dsimp only at hSw); go_simp; with_reducible rfl)
      case' g1qr0 => try simp only [Act.put, List.setIfInBounds_toArray, List.set_cons_zero, List.set_cons_succ]
      refine wpAnyH_takeL (i := 1) (v := ?g1qv1) rfl (by kernel_rfl) (by kernel_rfl) (by kernel_rfl) (fun _ _ _ h => h) (Or.inl ⟨by rfl, ?g1qy1⟩) (by assumption) ?g1qr1
      case g1qy1 => first | (intro w hSw; (try dsimp only at hSw); go_simp; done) | (intro w hSw; (try dsimp only at hSw); go_simp; with_reducible rfl)
      case' g1qr1 => try simp only [Act.put, List.setIfInBounds_toArray, List.set_cons_zero, List.set_cons_succ]
      refine wpAnyH_takeL (i := 2) (v := ?g1qv2) rfl (by kernel_rfl) (by kernel_rfl) (by kernel_rfl) (fun _ _ _ h => h) (Or.inl ⟨by rfl, ?g1qy2⟩) (by assumption) ?g1qr2
      case g1qy2 => first | (intro w hSw; (try dsimp only at hSw); go_simp; done) | (intro w hSw; (try dsimp only at hSw); go_simp; with_reducible rfl)
      case' g1qr2 => try simp only [Act.put, List.setIfInBounds_toArray, List.set_cons_zero, List.set_cons_succ]
      refine wpAnyH_takeL (i := 3) (v := ?g1qv3) rfl (by kernel_rfl) (by kernel_rfl) (by kernel_rfl) (fun _ _ _ h => h) (Or.inl ⟨by rfl, ?g1qy3⟩) (by assumption) ?g1qr3
      case g1qy3 => first | (intro w hSw; (try dsimp only at hSw); go_simp; done) | (intro w hSw; (try dsimp only at hSw); go_simp; with_reducible rfl)
      case' g1qr3 => try simp only [Act.put, List.setIfInBounds_toArray, List.set_cons_zero, List.set_cons_succ]
      refine wpAnyH_takeL (i := 4) (v := ?g1qv4) rfl (by kernel_rfl) (by kernel_rfl) (by kernel_rfl) (fun _ _ _ h => h) (Or.inl ⟨by rfl, ?g1qy4⟩) (by assumption) ?g1qr4
      case g1qy4 => first | (intro w hSw; (try dsimp only at hSw); go_simp; done) | (intro w hSw; (try dsimp only at hSw); go_simp; with_reducible rfl)
      case' g1qr4 => try simp only [Act.put, List.setIfInBounds_toArray, List.set_cons_zero, List.set_cons_succ]
      refine wpAnyH_takeL (i := 5) (v := ?g1qv5) rfl (by kernel_rfl) (by kernel_rfl) (by kernel_rfl) (fun _ _ _ h => h) (Or.inl ⟨by rfl, ?g1qy5⟩) (by assumption) ?g1qr5
      case g1qy5 => first | (intro w hSw; (try dsimp only at hSw); go_simp; done) | (intro w hSw; (try dsimp only at hSw); go_simp; with_reducible rfl)
      case' g1qr5 => try simp only [Act.put, List.setIfInBounds_toArray, List.set_cons_zero, List.set_cons_succ]
      refine wpAnyH_ready (rs := [6]) (by kernel_rfl) (by simp) ?_
      refine AllReadyH.consL rfl (fun K hK => ?_) AllReadyH.nil
      go_simp
      go_at_call 34
      refine (HHY.out _ HXR.out.drew).mono ?_
      rintro e w5 ⟨rfl, hx5⟩
      have HX5 := hid ((Ext.refl wr).drew.trans hx5)
      clear hx5
      refine hK.out _ _ ⟨HX5.out.cell q0, HX5.out.cell q1, HX5.out.cell q2, HX5.out.cell q3, HX5.out.cell ey⟩ (fun hSg1q1 => ?_)
      clear hK K
      try simp only [Act.put, List.setIfInBounds_toArray, List.set_cons_zero, List.set_cons_succ]
      refine wpAnyH_done (by kernel_rfl) ?_ _
      have HXN := hid (HXR.out.trans HX5.out)
      have HSN := hid (HSM.out.ext HX5.out)
      cases g with
      | false =>
        have HPN : Hid (PL ins (fun x => x ∈ entries.take (k + 1)) M) := hid ((HP.out.skip HG.out).same HQ.out)
        go_wp2
        first
          | go_roundw
          | refine ⟨?rel, ?measure⟩
        case rel => exact ⟨k + 1, A', c', M, by omega, by go_num, rfl, HXN, HSN, HPN⟩
        case measure => simp [intOf]; omega
      | true =>
        have HPN : Hid (PL ins (fun x => x ∈ entries.take (k + 1)) (insOf M y)) := hid ((HP.out.add HG.out).same HQ.out)
        have q1 := HX5.out.cell q1
        have ey := HX5.out.cell ey
        go_wp2_with fail
        refine (HIN.out _ _ _ _ _ HSN.out HML.out y hy32).mono ?_
        rintro e w6 ⟨hx6, A6, c6, rfl, hs6⟩
        have HX6 := hid (HXN.out.trans hx6)
        have HS6 := hid hs6
        clear hx6 hs6
        go_wp2
        first
          | go_roundw
          | refine ⟨?rel, ?measure⟩
        case rel => exact ⟨k + 1, A6, c6, insOf M y, by omega, by go_num, rfl, HX6, HS6, HPN⟩
        case measure => simp [intOf]; omega
    · obtain rfl : ne = k := by omega
      have HP2 : Hid (PL ins (QI ins entries tabs at_ 0) M) := hid (HP.out.same fun x => by
        rw [List.take_of_length_le (by have := HLE.out; omega)]
        unfold QI
        constructor
        · rintro (h | ⟨j, i, hj, _⟩)
          · exact h
          · omega
        · exact .inl)
      obtain ⟨V, hV⟩ : ∃ V, V = wr := ⟨_, rfl⟩
      subst hV
      clear HP HML
      go_wp2
      clear q0 q1 q2 q3
      go_loopw [7, 9] (fun v i wr => ∃ (k : Nat) (A' : Option Addr) (c' : Nat) (M : List Nat), k ≤ n ∧ i = .int .i64 k ∧ v = .slice A' M.length c' ∧ Hid (Ext W0 wr) ∧ Hid (Sl u32R wr All (.slice A' M.length c') M) ∧ Hid (PL ins (QI ins entries tabs at_ k) M)) (fun _ i _ => n - (intOf i).toNat)
      case atStart => exact ⟨0, A', c', M, by omega, rfl, rfl, HXR, HSM, HP2⟩
      case round =>
        clear HSM HP2
        obtain ⟨k, A', c', M, hk, rfl, rfl, HXR2, HSM, HP⟩ := hrel
        have q0 := HXR2.out.cell Q0.out
        have q1 := HXR2.out.cell Q1.out
        have q2 := HXR2.out.cell Q2.out
        have q3 := HXR2.out.cell Q3.out
        have HML : Hid (M.length ≤ 1000000) := hid (by have := HP.out.len; have := HLN.out; have := HNN.out; omega)
        by_cases h1 : k < n
        · obtain ⟨y, hy⟩ : ∃ y, ins[k]? = some y := ⟨_, List.getElem?_eq_getElem (by have := HLN.out; omega)⟩
          have HFK := hid (HF.out wr HXR2.out k h1)
          obtain ⟨f, hf⟩ : ∃ f, firstB ins k = f := ⟨_, rfl⟩
          rw [hf] at HFK
          have HFF := hid hf
          have HY := hid hy
          clear hy hf
          go_wp2_with fail
          refine (HFK.out).mono ?_
          rintro e w2 ⟨rfl, hx2⟩
          have HXW := hid (HXR2.out.trans hx2)
          have HSW := hid (HSM.out.ext hx2)
          have q0 := hx2.cell q0
          have q1 := hx2.cell q1
          have q2 := hx2.cell q2
          have q3 := hx2.cell q3
          clear hx2
          cases f with
          | false =>
            have HPN : Hid (PL ins (QI ins entries tabs at_ (k + 1)) M) := hid (HP.out.same (QI_skip HFF.out))
            go_wp2
            first
              | go_roundw
              | refine ⟨?rel, ?measure⟩
            case rel => exact ⟨k + 1, A', c', M, by omega, by go_num, rfl, HXW, HSW, HPN⟩
            case measure => simp [intOf]; omega
          | true =>
            obtain ⟨b, off, rfl, hok, a0, a1, a2, a3, a4, a5, a6, a7, a8⟩ := Sl.in_at (HS.out.ext HXW.out) HY.out
            have HOY := hid hok
            have HTY := hid (HTG.out _ HXW.out y hok)
            have e9 : inV y = .agg #[.int .u32 y.addr, .int .u32 y.imm, .int .i64 y.op, .int .i64 y.form, .int .i64 y.width, .int .i64 y.cc, .int .i64 y.a, .int .i64 y.b, .int .i64 y.size] := rfl
            rw [e9] at HTY
            clear e9 hok
            obtain ⟨tl, htl⟩ : ∃ tl, tgtI tabs at_ y = tl := ⟨_, rfl⟩
            rw [htl] at HTY
            have HTL := hid htl
            clear htl
            go_wp2_with fail
            refine (HTY.out).mono ?_
            rintro e w3 ⟨hx3, AT, cT, rfl, hsT⟩
            obtain ⟨L, hL⟩ : ∃ L, tl.length = L := ⟨_, rfl⟩
            rw [hL] at hsT ⊢
            have HLL := hid hL
            have hcapT := hsT.cap
            have HST := hid hsT
            have HX3 := hid (HXW.out.trans hx3)
            have HSM3 := hid (HSW.out.ext hx3)
            have HP3 : Hid (PL ins (fun x => QI ins entries tabs at_ k x ∨ x ∈ tl.take 0) M) := hid (HP.out.same fun x => by simp)
            clear hx3 hsT hL a0 a1 a2 a3 a4 a5 a6 a7 a8 q0 q1 q2 q3 HML HP HSM HSW
            go_wp2
            go_loopw [7, 11] (fun v i wi => ∃ (m : Nat) (A' : Option Addr) (c' : Nat) (M : List Nat), m ≤ L ∧ i = .int .i64 m ∧ v = .slice A' M.length c' ∧ Hid (Ext w3 wi) ∧ Hid (Sl u32R wi All (.slice A' M.length c') M) ∧ Hid (PL ins (fun x => QI ins entries tabs at_ k x ∨ x ∈ tl.take m) M)) (fun _ i _ => L - (intOf i).toNat)
            case atStart => exact ⟨0, A', c', M, by omega, rfl, rfl, hid (Ext.refl _), HSM3, HP3⟩
            case round =>
              clear HSM3 HP3
              obtain ⟨m, A', c', M, hm, rfl, rfl, HXV, HSM, HP⟩ := hrel
              have HX4 := hid (HX3.out.trans HXV.out)
              have q0 := HX4.out.cell Q0.out
              have q1 := HX4.out.cell Q1.out
              have q2 := HX4.out.cell Q2.out
              have q3 := HX4.out.cell Q3.out
              have HML : Hid (M.length ≤ 1000000) := hid (by have := HP.out.len; have := HLN.out; have := HNN.out; omega)
              by_cases h2 : m < L
              · obtain ⟨z, hz⟩ : ∃ z, tl[m]? = some z := ⟨_, List.getElem?_eq_getElem (by have := HLL.out; omega)⟩
                obtain ⟨d, o, rfl, ez, hz32⟩ := (HST.out.ext HXV.out).num_at hz
                have HQ : Hid (∀ x, (QI ins entries tabs at_ k x ∨ x ∈ tl.take (m + 1)) ↔ ((QI ins entries tabs at_ k x ∨ x ∈ tl.take m) ∨ x = z)) := hid (fun x => by rw [take_snoc' hz, List.mem_append, List.mem_singleton, or_assoc])
                have i1 : (m : Int) < (L : Int) := by omega
                have i0 : (0 : Int) ≤ (m : Int) := by omega
                clear hz
                obtain ⟨g, hg⟩ : ∃ g, hasIn ins z = g := ⟨_, rfl⟩
                have HG := hid hg
                have HHY := hid (fun W h => HH.out W h z)
                rw [hg] at HHY
                clear hg
                go_wp2_with fail
                refine wp_region_held_drew (S := (fun w' => w'.cell? ⟨w.heap.size, 0, none⟩ = some (.slice (some ⟨b, off, none⟩) n c) ∧ w'.cell? ⟨w.heap.size, 1, none⟩ = some (.slice E ne ce) ∧ w'.cell? ⟨w.heap.size, 2, none⟩ = some (.slice U nu cu) ∧ w'.cell? ⟨w.heap.size, 3, none⟩ = some (.slice B nb cb) ∧ w'.cell? ⟨d, o + m, none⟩ = some (.int .u32 z))) (by kernel_rfl) ⟨q0, q1, q2, q3, ez⟩ (fun hSg2q0 => ?_)
                refine wpAnyH_takeL (i := 0) (v := ?g2qv0) rfl (by kernel_rfl) (by kernel_rfl) (by kernel_rfl) (fun _ _ _ h => h) (Or.inl ⟨by rfl, ?g2qy0⟩) (by assumption) ?g2qr0
                case g2qy0 => first | (intro w hSw; (try dsimp only at hSw); go_simp; done) | (intro w hSw; (try dsimp only at hSw); go_simp; with_reducible rfl)
                case' g2qr0 => try simp only [Act.put, List.setIfInBounds_toArray, List.set_cons_zero, List.set_cons_succ]
                refine wpAnyH_takeL (i := 1) (v := ?g2qv1) rfl (by kernel_rfl) (by kernel_rfl) (by kernel_rfl) (fun _ _ _ h => h) (Or.inl ⟨by rfl, ?g2qy1⟩) (by assumption) ?g2qr1
                case g2qy1 => first | (intro w hSw; (try dsimp only at hSw); go_simp; done) | (intro w hSw; (try dsimp only at hSw); go_simp; with_reducible rfl)
                case' g2qr1 => try simp only [Act.put, List.setIfInBounds_toArray, List.set_cons_zero, List.set_cons_succ]
                refine wpAnyH_takeL (i := 2) (v := ?g2qv2) rfl (by kernel_rfl) (by kernel_rfl) (by kernel_rfl) (fun _ _ _ h => h) (Or.inl ⟨by rfl, ?g2qy2⟩) (by assumption) ?g2qr2
                case g2qy2 => first | (intro w hSw; (try dsimp only at hSw); go_simp; done) | (intro w hSw; (try dsimp only at hSw); go_simp; with_reducible rfl)
                case' g2qr2 => try simp only [Act.put, List.setIfInBounds_toArray, List.set_cons_zero, List.set_cons_succ]
                refine wpAnyH_takeL (i := 3) (v := ?g2qv3) rfl (by kernel_rfl) (by kernel_rfl) (by kernel_rfl) (fun _ _ _ h => h) (Or.inl ⟨by rfl, ?g2qy3⟩) (by assumption) ?g2qr3
                case g2qy3 => first | (intro w hSw; (try dsimp only at hSw); go_simp; done) | (intro w hSw; (try dsimp only at hSw); go_simp; with_reducible rfl)
                case' g2qr3 => try simp only [Act.put, List.setIfInBounds_toArray, List.set_cons_zero, List.set_cons_succ]
                refine wpAnyH_takeL (i := 4) (v := ?g2qv4) rfl (by kernel_rfl) (by kernel_rfl) (by kernel_rfl) (fun _ _ _ h => h) (Or.inl ⟨by rfl, ?g2qy4⟩) (by assumption) ?g2qr4
                case g2qy4 => first | (intro w hSw; (try dsimp only at hSw); go_simp; done) | (intro w hSw; (try dsimp only at hSw); go_simp; with_reducible rfl)
                case' g2qr4 => try simp only [Act.put, List.setIfInBounds_toArray, List.set_cons_zero, List.set_cons_succ]
                refine wpAnyH_ready (rs := [5]) (by kernel_rfl) (by simp) ?_
                refine AllReadyH.consL rfl (fun K hK => ?_) AllReadyH.nil
                go_simp
                go_at_call 34
                refine (HHY.out _ HX4.out.drew).mono ?_
                rintro e w5 ⟨rfl, hx5⟩
                have HX5 := hid hx5.drew_left
                clear hx5
                refine hK.out _ _ ⟨HX5.out.cell q0, HX5.out.cell q1, HX5.out.cell q2, HX5.out.cell q3, HX5.out.cell ez⟩ (fun hSg2q1 => ?_)
                clear hK K
                try simp only [Act.put, List.setIfInBounds_toArray, List.set_cons_zero, List.set_cons_succ]
                refine wpAnyH_done (by kernel_rfl) ?_ _
                have HXN := hid (HXV.out.trans HX5.out)
                have HSN := hid (HSM.out.ext HX5.out)
                cases g with
                | false =>
                  have HPN := hid ((HP.out.skip HG.out).same HQ.out)
                  go_wp2
                  first
                    | go_roundw
                    | refine ⟨?rel, ?measure⟩
                  case rel => exact ⟨m + 1, A', c', M, by omega, by go_num, rfl, HXN, HSN, HPN⟩
                  case measure => simp [intOf]; omega
                | true =>
                  have HPN := hid ((HP.out.add HG.out).same HQ.out)
                  have ez := HX5.out.cell ez
                  go_wp2_with fail
                  refine (HIN.out _ _ _ _ _ HSN.out HML.out z hz32).mono ?_
                  rintro e w6 ⟨hx6, A6, c6, rfl, hs6⟩
                  have HX6 := hid (HXN.out.trans hx6)
                  have HS6 := hid hs6
                  clear hx6 hs6
                  go_wp2
                  first
                    | go_roundw
                    | refine ⟨?rel, ?measure⟩
                  case rel => exact ⟨m + 1, A6, c6, insOf M z, by omega, by go_num, rfl, HX6, HS6, HPN⟩
                  case measure => simp [intOf]; omega
              · obtain rfl : L = m := by omega
                have HP4 : Hid (PL ins (fun x => QI ins entries tabs at_ k x ∨ x ∈ tl) M) := hid (HP.out.same fun x => by rw [List.take_of_length_le (by have := HLL.out; omega)])
                obtain ⟨b', off', hA, -, a0, a1, a2, a3, a4, a5, a6, a7, a8⟩ := Sl.in_at (HS.out.ext HX4.out) HY.out
                cases hA
                have HNX := hid (fun W => rnext_any W y HOY.out)
                have HEN := hid (fun W => rends_any W y)
                have e9 : inV y = .agg #[.int .u32 y.addr, .int .u32 y.imm, .int .i64 y.op, .int .i64 y.form, .int .i64 y.width, .int .i64 y.cc, .int .i64 y.a, .int .i64 y.b, .int .i64 y.size] := rfl
                rw [e9] at HNX HEN
                have hnlt := nextI_lt y
                obtain ⟨nx, hnx⟩ : ∃ nx, nextI y = nx := ⟨_, rfl⟩
                obtain ⟨s, hs⟩ : ∃ s, stopsI y = s := ⟨_, rfl⟩
                obtain ⟨g, hg⟩ : ∃ g, hasIn ins nx = g := ⟨_, rfl⟩
                have HHY := hid (fun W h => HH.out W h nx)
                rw [hg] at HHY
                rw [hs] at HEN
                rw [hnx] at HNX hnlt
                have HC : Hid (∀ x, QI ins entries tabs at_ (k + 1) x ↔ ((QI ins entries tabs at_ k x ∨ x ∈ tl) ∨ (s = true ∧ x = nx))) := hid (fun x => by
                  rw [QI_step HY.out HFF.out, candI, HTL.out, hs, hnx, List.mem_append, or_assoc]
                  cases s <;> simp)
                have HG := hid hg
                clear e9 hnx hs hg HP
                go_wp2_with fail
                refine (HNX.out _).mono ?_
                rintro e w4 ⟨rfl, hx4⟩
                have HX5 := hid (HX4.out.trans hx4)
                have HS5 := hid (HSM.out.ext hx4)
                have a0 := hx4.cell a0
                have a1 := hx4.cell a1
                have a2 := hx4.cell a2
                have a3 := hx4.cell a3
                have a4 := hx4.cell a4
                have a5 := hx4.cell a5
                have a6 := hx4.cell a6
                have a7 := hx4.cell a7
                have a8 := hx4.cell a8
                have q0 := hx4.cell q0
                have q1 := hx4.cell q1
                have q2 := hx4.cell q2
                have q3 := hx4.cell q3
                clear hx4
                go_wp2_with fail
                refine (HEN.out _).mono ?_
                rintro e w5 ⟨rfl, hx5⟩
                have HX6 := hid (HX5.out.trans hx5)
                have HS6 := hid (HS5.out.ext hx5)
                have q0 := hx5.cell q0
                have q1 := hx5.cell q1
                have q2 := hx5.cell q2
                have q3 := hx5.cell q3
                clear hx5 a0 a1 a2 a3 a4 a5 a6 a7 a8
                cases s with
                | false =>
                  have HPN : Hid (PL ins (QI ins entries tabs at_ (k + 1)) M) := hid (HP4.out.same fun x => by rw [HC.out]; simp)
                  go_wp2
                  first
                    | go_roundw
                    | refine ⟨?rel, ?measure⟩
                  case rel => exact ⟨k + 1, A', c', M, by omega, by go_num, rfl, HX6, HS6, HPN⟩
                  case measure => simp [intOf]; omega
                | true =>
                  go_wp2_with fail
                  refine (HHY.out _ HX6.out).mono ?_
                  rintro e w6 ⟨rfl, hx6⟩
                  have HX7 := hid (HX6.out.trans hx6)
                  have HS7 := hid (HS6.out.ext hx6)
                  clear hx6 q0 q1 q2 q3
                  cases g with
                  | false =>
                    have HPN : Hid (PL ins (QI ins entries tabs at_ (k + 1)) M) := hid ((HP4.out.skip HG.out).same fun x => by rw [HC.out]; simp)
                    go_wp2
                    first
                      | go_roundw
                      | refine ⟨?rel, ?measure⟩
                    case rel => exact ⟨k + 1, A', c', M, by omega, by go_num, rfl, HX7, HS7, HPN⟩
                    case measure => simp [intOf]; omega
                  | true =>
                    have HPN : Hid (PL ins (QI ins entries tabs at_ (k + 1)) (insOf M nx)) := hid ((HP4.out.add HG.out).same fun x => by rw [HC.out]; simp)
                    go_wp2_with fail
                    refine (HIN.out _ _ _ _ _ HS7.out HML.out nx hnlt).mono ?_
                    rintro e w8 ⟨hx8, A8, c8, rfl, hs8⟩
                    have HX8 := hid (HX7.out.trans hx8)
                    have HS8 := hid hs8
                    clear hx8 hs8
                    go_wp2
                    first
                      | go_roundw
                      | refine ⟨?rel, ?measure⟩
                    case rel => exact ⟨k + 1, A8, c8, insOf M nx, by omega, by go_num, rfl, HX8, HS8, HPN⟩
                    case measure => simp [intOf]; omega
        · obtain rfl : n = k := by omega
          have HR : Hid (M = leadL ins entries tabs at_) := hid (PL.lead (HP.out.same fun x => by rw [QI_all, ← HLN.out]))
          go_wp2
          go_ret
          rw [← HR.out]
          exact ⟨HE.out.trans HXR2.out, A', c', rfl, HSM.out⟩
end Go.Proofs.Ytolbnhkdpbdhhaa
