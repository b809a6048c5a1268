/- reloc: shared, Check, Value, each. -/
import Derived.Test.YtnlofhbimfcejaaRelA
import Derived.Test.YtnlofhbimfcejaaSecC
import Derived.Test.YtnlofhbimfcejaaSlc
import Derived.WalkMore
namespace Go.Proofs.Ytnlofhbimfcejaa
open Go.RowKit Go.Deco
set_option linter.unusedSimpArgs false
set_option linter.unusedVariables false

theorem info_rel : (Try.prog.info? 36).map (fun i => (i.zero, i.size, i.bytes)) = some (some (.agg #[.int .i64 0, .int .i64 0, .int .i64 0, .string ⟨#[]⟩, .int .i32 0]), 5, 48) := by kernel_rfl
def BoolTo (w : World) (b : Bool) (e : Ending) (w' : World) : Prop := e = .returned (.bool b) ∧ Ext w w'
theorem shareB_eq (a b : Rl) (q1 q2 q3 : Bool) (h1 : decide (a.sec = b.sec) = q1) (h2 : decide (a.off - b.off < 4) = q2) (h3 : decide (b.off - a.off < 4) = q3) : shareB a b = (q1 && (q2 && q3)) := by
  unfold shareB
  rw [h1, ← h2, ← h3]
  congr 1
  congr 1
  · rw [Bool.eq_iff_iff]; simp; omega
  · rw [Bool.eq_iff_iff]; simp; omega

set_option maxRecDepth 100000 in
set_option maxHeartbeats 4000000 in
theorem rlshared_any (w : World) (A : Option Addr) (n c : Nat) (l : List Rl) (hl : Sl relR w All (.slice A n c) l) (ho : ∀ r ∈ l, 0 ≤ r.off ∧ r.off ≤ 65536) :
    Calls Try.prog 31 #[.slice A n c] w (BoolTo w (sharedTo [] l)) := by
  obtain ⟨i0, hi, hz0, hz1, hz2⟩ := info_parts info_rel
  have hln := hl.len
  obtain ⟨hnc, hcm⟩ := hl.cap
  obtain ⟨z, hz⟩ : ∃ z, sharedTo [] l = z := ⟨_, rfl⟩
  rw [hz]
  have HZ := hid hz
  have HL := hid hl
  have HLN := hid hln
  have HO := hid ho
  have HI := hid hi
  have HZ1 := hid hz1
  clear hz hl hln ho hi hz0 hz1 hz2
  go_enter Try.func31, Try.ntmps31
  go_wp2
  refine wp_scope_straight ?_
  go_wp2
  refine wp_label ?_
  go_wp2
  go_loopw [10, 3] (fun i fd wr => ∃ k : Nat, k ≤ n ∧ i = .int .i64 k ∧ fd = .bool false ∧ Hid (Ext w wr) ∧ Hid (sharedTo (l.take k) (l.drop k) = sharedTo [] l)) (fun i _ _ => n - (intOf i).toNat)
  case atStart => exact ⟨0, by omega, rfl, rfl, hid (Ext.refl _), hid rfl⟩
  case round =>
    obtain ⟨k, hk, rfl, rfl, HX, HD⟩ := hrel
    by_cases h1 : k < n
    · obtain ⟨a, ha⟩ : ∃ a, l[k]? = some a := ⟨_, List.getElem?_eq_getElem (by have := HLN.out; omega)⟩
      obtain ⟨b, off, rfl, -, c0, c1, c2, c3, c4⟩ := Sl.rel_at (HL.out.ext HX.out) ha
      have HK := hid ha
      have hao := HO.out a (List.mem_of_getElem? ha)
      obtain ⟨sa, fa, ka, ya, da⟩ := a
      dsimp only at c0 c1 c2 c3 c4 hao
      obtain ⟨a1, a2⟩ := hao
      obtain ⟨W1, hW1⟩ : ∃ W1, wr.alloc (.cells #[.int .i64 sa, .int .i64 fa, .int .i64 ka, .string ya, .int .i32 da] 36) = W1 := ⟨_, rfl⟩
      have hE1 : Ext wr W1 := by rw [← hW1]; exact (Ext.refl wr).alloc _
      have d0 : W1.cell? ⟨wr.heap.size, 0, none⟩ = some (.int .i64 sa) := by rw [← hW1]; simp [go_sem]
      have d1 : W1.cell? ⟨wr.heap.size, 1, none⟩ = some (.int .i64 fa) := by rw [← hW1]; simp [go_sem]
      have HX1 := hid (HX.out.trans hE1)
      have HD01 := hid (And.intro d0 d1)
      clear ha hE1 d0 d1
      go_wp2_with (first
        | ((with_reducible refine wpList_at_slice 25 (.tmp 15) none (some (.tmp 16)) rfl rfl ?_); refine wpList_to rfl 25 36 (.tmp 15) (.tmp 16) rfl Try.underlying25 i0 HI.out relR HZ1.out rfl (HL.out.ext HX1.out) k rfl hk ?_; intro A2 hA2; have HA2 := hid hA2; clear hA2)
        | fail)
      clear hW1 c0 c1 c2 c3 c4
      obtain ⟨bx, hbx⟩ : ∃ bx, wr.heap.size = bx := ⟨_, rfl⟩
      rw [hbx] at HD01 ⊢
      clear hbx
      obtain ⟨V, hV⟩ : ∃ V, V = wr := ⟨_, rfl⟩
      obtain rfl := hV
      go_loopw [19, 3] (fun i fd wr => ∃ j : Nat, j ≤ k ∧ i = .int .i64 j ∧ fd = .bool false ∧ Hid (Ext W1 wr) ∧ Hid ((l.take j).any (fun b => shareB ⟨sa, fa, ka, ya, da⟩ b) = false)) (fun i _ _ => k - (intOf i).toNat)
      case atStart => exact ⟨0, by omega, rfl, rfl, hid (Ext.refl _), hid (by simp)⟩
      case round =>
        obtain ⟨j, hj, rfl, rfl, HX2, HN⟩ := hrel
        by_cases h2 : j < k
        · obtain ⟨t, ht⟩ : ∃ t, l[j]? = some t := ⟨_, List.getElem?_eq_getElem (by have := HLN.out; omega)⟩
          have htk : (l.take k)[j]? = some t := by rw [List.getElem?_take_of_lt h2, ht]
          obtain ⟨b', off', rfl, -, e0, e1, e2, e3, e4⟩ := Sl.rel_at (HA2.out.ext HX2.out) htk
          have hto := HO.out t (List.mem_of_getElem? ht)
          have HJ := hid ht
          obtain ⟨st, ft, kt, yt, dt⟩ := t
          dsimp only at e0 e1 e2 e3 e4 hto
          obtain ⟨t1, t2⟩ := hto
          have d0 := HX2.out.cell HD01.out.1
          have d1 := HX2.out.cell HD01.out.2
          have hlt := World.block_lt_of_cell? _ _ d0
          have HX3 := hid (HX2.out.alloc (.cells #[.int .i64 st, .int .i64 ft, .int .i64 kt, .string yt, .int .i32 dt] 36))
          have hsb := shareB_eq ⟨sa, fa, ka, ya, da⟩ ⟨st, ft, kt, yt, dt⟩ _ _ _ rfl rfl rfl
          dsimp only at hsb
          by_cases q1 : sa = st
          · by_cases q2 : fa - ft < 4
            · by_cases q3 : ft - fa < 4
              · rw [decide_eq_true q1, decide_eq_true q2, decide_eq_true q3] at hsb
                obtain rfl : z = true := by rw [← HZ.out]; exact shared_hit HK.out (any_take_hit HJ.out hsb h2) HD.out
                have p1 : (sa == st) = true := by simpa using q1
                clear hsb ht htk q1
                go_wp2
                go_ret
                exact ⟨rfl, HX1.out.trans HX3.out⟩
              · rw [decide_eq_true q1, decide_eq_true q2, decide_eq_false q3] at hsb
                have HN2 := hid (any_take_step HJ.out hsb HN.out)
                have p1 : (sa == st) = true := by simpa using q1
                clear hsb ht htk q1
                go_wp2
                first
                  | go_roundw
                  | refine ⟨?rel, ?measure⟩
                case rel => exact ⟨j + 1, by omega, by go_num, rfl, HX3, HN2⟩
                case measure => simp [intOf]; omega
            · rw [decide_eq_true q1, decide_eq_false q2, Bool.false_and] at hsb
              have HN2 := hid (any_take_step HJ.out hsb HN.out)
              have p1 : (sa == st) = true := by simpa using q1
              clear hsb ht htk q1
              go_wp2
              first
                | go_roundw
                | refine ⟨?rel, ?measure⟩
              case rel => exact ⟨j + 1, by omega, by go_num, rfl, HX3, HN2⟩
              case measure => simp [intOf]; omega
          · rw [decide_eq_false q1, Bool.false_and] at hsb
            have HN2 := hid (any_take_step HJ.out hsb HN.out)
            have p1 : (sa == st) = false := by simpa using q1
            clear hsb ht htk q1
            go_wp2
            first
              | go_roundw
              | refine ⟨?rel, ?measure⟩
            case rel => exact ⟨j + 1, by omega, by go_num, rfl, HX3, HN2⟩
            case measure => simp [intOf]; omega
        · obtain rfl : j = k := by omega
          have HD2 := hid (shared_step HK.out HN.out HD.out)
          have HX4 := hid (HX1.out.trans HX2.out)
          go_wp2
          first
            | go_roundw
            | refine ⟨?rel, ?measure⟩
          case rel => exact ⟨j + 1, by omega, by go_num, rfl, HX4, HD2⟩
          case measure => simp [intOf]; omega
    · obtain rfl : k = n := by omega
      have hsh : sharedTo [] l = false := by
        have := HD.out
        rw [show k = l.length by have := HLN.out; omega] at this
        exact shared_end this
      obtain rfl : z = false := by rw [← HZ.out]; exact hsh
      clear hsh
      go_wp2
      go_ret
      exact ⟨rfl, HX.out⟩
end Go.Proofs.Ytnlofhbimfcejaa
