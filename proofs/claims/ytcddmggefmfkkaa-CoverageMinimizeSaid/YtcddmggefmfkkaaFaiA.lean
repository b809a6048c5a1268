/- decompilerref45.Fails. -/
import Derived.Test.YtcddmggefmfkkaaLawB
namespace Go.Proofs.Ytcddmggefmfkkaa
open Go.RowKit Go.Deco
set_option linter.unusedSimpArgs false
set_option linter.unusedVariables false

/-- A rule. -/
structure Rl where
  least : Nat
  count : Int
  pair : Bool
def Rl.ok (q : Rl) : Prop := q.least < 4294967296 ∧ -9223372036854775808 ≤ q.count ∧ q.count ≤ 9223372036854775807
def Rl.val (q : Rl) : Value := .agg #[.int .u32 q.least, .int .i64 q.count, .bool q.pair]
def pairTo (l : List Nat) : Nat → Bool
  | 0 => false
  | k + 1 => pairTo l k || (decide (0 < k) && decide ((l[k - 1]?.getD 0 + l[k]?.getD 0) % 2 = 1))
def cntTo (q : Rl) (l : List Nat) (k : Nat) : Nat := ((l.take k).filter fun x => decide (q.least ≤ x)).length
/-- The predicate. -/
def failsB (q : Rl) (l : List Nat) : Bool := decide (q.count ≤ (cntTo q l l.length : Int)) && (pairTo l l.length || !q.pair)
theorem cntTo_le (q : Rl) (l : List Nat) (k : Nat) : cntTo q l k ≤ k := by
  unfold cntTo
  have h1 := List.length_filter_le (fun x => decide (q.least ≤ x)) (l.take k)
  have h2 : (l.take k).length ≤ k := List.length_take_le _ _
  omega
theorem cntTo_yes {q : Rl} {l : List Nat} {k x : Nat} (h : l[k]? = some x) (hx : q.least ≤ x) : cntTo q l (k + 1) = cntTo q l k + 1 := by
  rw [cntTo, take_snoc' h, List.filter_append, cntTo]
  simp [hx]
theorem cntTo_no {q : Rl} {l : List Nat} {k x : Nat} (h : l[k]? = some x) (hx : ¬ q.least ≤ x) : cntTo q l (k + 1) = cntTo q l k := by
  rw [cntTo, take_snoc' h, List.filter_append, cntTo]
  simp [hx]
theorem pairTo_true {l : List Nat} {k : Nat} (h : pairTo l k = true) : pairTo l (k + 1) = true := by rw [pairTo, h]; rfl
theorem pairTo_zero (l : List Nat) : pairTo l (0 + 1) = false := by simp [pairTo]
theorem pairTo_step {l : List Nat} {k x y : Nat} {b : Bool} (h : pairTo l k = false) (h0 : 0 < k) (hx : l[k - 1]? = some x) (hy : l[k]? = some y) (hb : decide ((x + y) % 2 = 1) = b) : pairTo l (k + 1) = b := by
  rw [pairTo, h, hx, hy]
  simp [h0, ← hb]
theorem sum_odd (x y : Nat) : ∃ z : Nat, IntKind.u32.wrap ((x : Int) + (y : Int)) = (z : Int) ∧ z < 4294967296 ∧ z % 2 = (x + y) % 2 := by
  refine ⟨(x + y) % 4294967296, ?_, Nat.mod_lt _ (by omega), by omega⟩
  rw [IntKind.wrap_u32]
  omega

set_option maxRecDepth 100000 in
set_option maxHeartbeats 2000000 in
theorem fails_any (w : World) (q : Rl) (S : Nat → Prop) (A : Option Addr) (n c : Nat) (l : List Nat) (hl : Sl u32R w S (.slice A n c) l) :
    Calls Try.prog 22 #[q.val, .slice A n c] w (OneBool w (failsB q l)) := by
  have hln := hl.len
  obtain ⟨hnc, hcm⟩ := hl.cap
  obtain ⟨r, hr⟩ : ∃ r, failsB q l = r := ⟨_, rfl⟩
  rw [hr]
  obtain ⟨le, co, pa⟩ := q
  unfold Rl.val
  dsimp only
  obtain ⟨W0, hW0⟩ : ∃ W0, w.alloc (.cells #[.int .u32 le, .int .i64 co, .bool pa] 43) = W0 := ⟨_, rfl⟩
  have hE0 : Ext w W0 := by rw [← hW0]; exact (Ext.refl w).alloc _
  have c0 : W0.cell? ⟨w.heap.size, 0, none⟩ = some (.int .u32 le) := by rw [← hW0]; simp [go_sem]
  have c1 : W0.cell? ⟨w.heap.size, 1, none⟩ = some (.int .i64 co) := by rw [← hW0]; simp [go_sem]
  have c2 : W0.cell? ⟨w.heap.size, 2, none⟩ = some (.bool pa) := by rw [← hW0]; simp [go_sem]
  have HE0 := hid hE0
  have HC := hid (And.intro c0 (And.intro c1 c2))
  have HS := hid (hl.ext hE0)
  have HR := hid hr
  have HL := hid hln
  clear hE0 c0 c1 c2 hl hr hln
  go_enter Try.func22, Try.ntmps22
  go_wp2
  clear hW0
  go_loopw [5, 6, 7] (fun v p i wr => ∃ (k m : Nat) (b : Bool), k ≤ n ∧ m ≤ k ∧ v = .int .i64 m ∧ p = .bool b ∧ i = .int .i64 k ∧ Hid (Ext W0 wr) ∧ Hid (cntTo ⟨le, co, pa⟩ l k = m) ∧ Hid (pairTo l k = b)) (fun _ _ i _ => n - (intOf i).toNat)
  case atStart => exact ⟨0, 0, false, by omega, by omega, rfl, rfl, rfl, hid (Ext.refl _), hid rfl, hid rfl⟩
  case round =>
    obtain ⟨k, m, b, hk, hm, rfl, rfl, rfl, HX, HM, HB⟩ := hrel
    have c0 := HX.out.cell HC.out.1
    have c1 := HX.out.cell HC.out.2.1
    have c2 := HX.out.cell HC.out.2.2
    by_cases h1 : k < n
    · obtain ⟨x, hx⟩ : ∃ x, l[k]? = some x := ⟨_, List.getElem?_eq_getElem (by have := HL.out; omega)⟩
      obtain ⟨gb, off, rfl, cx, hx32⟩ := (HS.out.ext HX.out).num_at hx
      have HK := hid hx
      have hk63 : k < 9223372036854775807 := by omega
      have hm1 : IntKind.i64.wrap ((m : Int) + 1) = ((m + 1 : Nat) : Int) := (IntWalk.i64_in _ (by omega)).trans (by omega)
      clear hx c1 c2
      obtain ⟨m2, hm2, hm3⟩ : ∃ m2, cntTo ⟨le, co, pa⟩ l (k + 1) = m2 ∧ m2 = if le ≤ x then m + 1 else m := by
        refine ⟨_, rfl, ?_⟩
        split
        · rename_i h; rw [cntTo_yes HK.out h, HM.out]
        · rename_i h; rw [cntTo_no HK.out h, HM.out]
      have HM2 := hid hm2
      have hm4 : m2 ≤ k + 1 := by split at hm3 <;> omega
      clear hm2
      by_cases hb : b = true
      · subst hb
        have HB2 := hid (pairTo_true HB.out)
        by_cases hxe : le ≤ x
        all_goals
          (first | rw [if_pos hxe] at hm3 | rw [if_neg hxe] at hm3)
          subst hm3
          go_wp2
          go_quiet (fail)
          go_wp2
          go_quiet (fail)
          go_wp2
          first
            | go_roundw
            | refine ⟨?rel, ?measure⟩
          case rel => exact ⟨k + 1, _, true, by omega, hm4, by go_num, rfl, by go_num, hid (HX.out.drewN _), HM2, HB2⟩
          case measure => simp [intOf]; omega
      · obtain rfl : b = false := by simpa using hb
        by_cases hk0 : k = 0
        · subst hk0
          have HB2 := hid (pairTo_zero l)
          rw [Nat.add_zero] at cx
          by_cases hxe : le ≤ x
          all_goals
            (first | rw [if_pos hxe] at hm3 | rw [if_neg hxe] at hm3)
            subst hm3
            go_wp2
            go_quiet (fail)
            go_wp2
            go_quiet (fail)
            go_wp2
            first
              | go_roundw
              | refine ⟨?rel, ?measure⟩
            case rel => exact ⟨0 + 1, _, false, by omega, hm4, by go_num, rfl, by go_num, hid (HX.out.drewN _), HM2, HB2⟩
            case measure => simp [intOf]; omega
        · obtain ⟨j, rfl⟩ : ∃ j, k = j + 1 := ⟨k - 1, by omega⟩
          obtain ⟨y, hy⟩ : ∃ y, l[j]? = some y := ⟨_, List.getElem?_eq_getElem (by have := HL.out; omega)⟩
          obtain ⟨gb', off', hA, cy, hy32⟩ := (HS.out.ext HX.out).num_at hy
          cases hA
          obtain ⟨z, hz, hz32, hz2⟩ := sum_odd y x
          obtain ⟨b2, hb2⟩ : ∃ b2, decide ((y + x) % 2 = 1) = b2 := ⟨_, rfl⟩
          have HB2 := hid (pairTo_step HB.out (by omega) hy HK.out hb2)
          rw [← hz2] at hb2
          have hj1 : IntKind.i64.wrap ((j : Int) + 1 - 1) = (j : Int) := (IntWalk.i64_in _ (by omega)).trans (by omega)
          have hzt : (z : Int).tmod 2 = ((z % 2 : Nat) : Int) := by rw [Int.tmod_eq_emod_of_nonneg (by omega)]; omega
          have hzw : IntKind.u32.wrap ((z % 2 : Nat) : Int) = ((z % 2 : Nat) : Int) := IntWalk.u32_in _ (by omega)
          have hk0' : ((j : Int) + 1 > 0) := by omega
          obtain ⟨zz, hzz⟩ : ∃ zz, z % 2 = zz := ⟨_, rfl⟩
          rw [hzz] at hb2 hzt hzw
          have hb3 : ((zz : Int) == 1) = b2 := by rw [← hb2, Bool.eq_iff_iff]; simp; omega
          clear hy hb hk0 hz2 hzz hb2
          by_cases hxe : le ≤ x
          all_goals
            (first | rw [if_pos hxe] at hm3 | rw [if_neg hxe] at hm3)
            subst hm3
            go_wp2
            go_quiet (fail)
            go_wp2
            go_quiet (fail)
            go_wp2
            first
              | go_roundw
              | refine ⟨?rel, ?measure⟩
            case rel => exact ⟨j + 1 + 1, _, b2, by omega, hm4, by go_num, rfl, by go_num, hid (HX.out.drewN _), HM2, HB2⟩
            case measure => simp [intOf]; omega
    · obtain rfl : k = n := by omega
      have hr : (decide (co ≤ (m : Int)) && (b || !pa)) = r := by
        rw [← HR.out, failsB, ← HL.out, HM.out, HB.out]
      have HRR := hid hr
      have HXX := hid (HE0.out.trans HX.out)
      clear hr
      by_cases hco : co ≤ (m : Int)
      · have hco' : (m : Int) ≥ co := hco
        cases b <;> cases pa
        all_goals
          go_wp2
          go_ret
          exact ⟨ret_bool (by rw [← HRR.out]; simp [hco]), HXX.out⟩
      · have hco' : ¬ ((m : Int) ≥ co) := hco
        go_wp2
        go_ret
        exact ⟨ret_bool (by rw [← HRR.out, decide_eq_false (show ¬ co ≤ (m : Int) by omega)]; rfl), HXX.out⟩
end Go.Proofs.Ytcddmggefmfkkaa
