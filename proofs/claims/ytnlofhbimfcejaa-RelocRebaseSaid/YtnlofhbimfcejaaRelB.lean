/- reloc: shared, Check. -/
import Derived.Test.YtnlofhbimfcejaaRelA
import Derived.Test.YtnlofhbimfcejaaSecC
import Derived.Test.YtnlofhbimfcejaaSlc
import Derived.WalkMore
namespace Go.Proofs.Ytnlofhbimfcejaa
open Go.RowKit Go.Deco
set_option linter.unusedSimpArgs false
set_option linter.unusedVariables false

theorem info_rel : (Try.prog.info? 36).map (fun i => (i.zero, i.size, i.bytes)) = some (some (.agg #[.int .i64 0, .int .i64 0, .int .i64 0, .string ⟨#[]⟩, .int .i32 0]), 5, 48) := by kernel_rfl
def BoolTo (w : World) (b : Bool) (e : Ending) (w' : World) : Prop := e = .returned (.bool b) ∧ Ext w w'
theorem shareB_eq (a b : Rl) (q1 q2 q3 : Bool) (h1 : decide (a.sec = b.sec) = q1) (h2 : decide (a.off - b.off < 4) = q2) (h3 : decide (b.off - a.off < 4) = q3) : shareB a b = (q1 && (q2 && q3)) := by
  unfold shareB
  rw [h1, ← h2, ← h3]
  congr 1
  congr 1
  · rw [Bool.eq_iff_iff]; simp; omega
  · rw [Bool.eq_iff_iff]; simp; omega

set_option maxRecDepth 100000 in
set_option maxHeartbeats 4000000 in
theorem rlshared_any (w : World) (A : Option Addr) (n c : Nat) (l : List Rl) (hl : Sl relR w All (.slice A n c) l) (ho : ∀ r ∈ l, 0 ≤ r.off ∧ r.off ≤ 65536) :
    Calls Try.prog 31 #[.slice A n c] w (BoolTo w (sharedTo [] l)) := by
  obtain ⟨i0, hi, hz0, hz1, hz2⟩ := info_parts info_rel
  have hln := hl.len
  obtain ⟨hnc, hcm⟩ := hl.cap
  obtain ⟨z, hz⟩ : ∃ z, sharedTo [] l = z := ⟨_, rfl⟩
  rw [hz]
  have HZ := hid hz
  have HL := hid hl
  have HLN := hid hln
  have HO := hid ho
  have HI := hid hi
  have HZ1 := hid hz1
  clear hz hl hln ho hi hz0 hz1 hz2
  go_enter Try.func31, Try.ntmps31
  go_wp2
  refine wp_scope_straight ?_
  go_wp2
  refine wp_label ?_
  go_wp2
  go_loopw [10, 3] (fun i fd wr => ∃ k : Nat, k ≤ n ∧ i = .int .i64 k ∧ fd = .bool false ∧ Hid (Ext w wr) ∧ Hid (sharedTo (l.take k) (l.drop k) = sharedTo [] l)) (fun i _ _ => n - (intOf i).toNat)
  case atStart => exact ⟨0, by omega, rfl, rfl, hid (Ext.refl _), hid rfl⟩
  case round =>
    obtain ⟨k, hk, rfl, rfl, HX, HD⟩ := hrel
    by_cases h1 : k < n
    · obtain ⟨a, ha⟩ : ∃ a, l[k]? = some a := ⟨_, List.getElem?_eq_getElem (by have := HLN.out; omega)⟩
      obtain ⟨b, off, rfl, -, c0, c1, c2, c3, c4⟩ := Sl.rel_at (HL.out.ext HX.out) ha
      have HK := hid ha
      have hao := HO.out a (List.mem_of_getElem? ha)
      obtain ⟨sa, fa, ka, ya, da⟩ := a
      dsimp only at c0 c1 c2 c3 c4 hao
      obtain ⟨a1, a2⟩ := hao
      obtain ⟨W1, hW1⟩ : ∃ W1, wr.alloc (.cells #[.int .i64 sa, .int .i64 fa, .int .i64 ka, .string ya, .int .i32 da] 36) = W1 := ⟨_, rfl⟩
      have hE1 : Ext wr W1 := by rw [← hW1]; exact (Ext.refl wr).alloc _
      have d0 : W1.cell? ⟨wr.heap.size, 0, none⟩ = some (.int .i64 sa) := by rw [← hW1]; simp [go_sem]
      have d1 : W1.cell? ⟨wr.heap.size, 1, none⟩ = some (.int .i64 fa) := by rw [← hW1]; simp [go_sem]
      have HX1 := hid (HX.out.trans hE1)
      have HD01 := hid (And.intro d0 d1)
      clear ha hE1 d0 d1
      go_wp2_with (first
        | ((with_reducible refine wpList_at_slice 25 (.tmp 15) none (some (.tmp 16)) rfl rfl ?_); refine wpList_to rfl 25 36 (.tmp 15) (.tmp 16) rfl Try.underlying25 i0 HI.out relR HZ1.out rfl (HL.out.ext HX1.out) k rfl hk ?_; intro A2 hA2; have HA2 := hid hA2; clear hA2)
        | fail)
      clear hW1 c0 c1 c2 c3 c4
      obtain ⟨bx, hbx⟩ : ∃ bx, wr.heap.size = bx := ⟨_, rfl⟩
      rw [hbx] at HD01 ⊢
      clear hbx
      obtain ⟨V, hV⟩ : ∃ V, V = wr := ⟨_, rfl⟩
      obtain rfl := hV
      go_loopw [19, 3] (fun i fd wr => ∃ j : Nat, j ≤ k ∧ i = .int .i64 j ∧ fd = .bool false ∧ Hid (Ext W1 wr) ∧ Hid ((l.take j).any (fun b => shareB ⟨sa, fa, ka, ya, da⟩ b) = false)) (fun i _ _ => k - (intOf i).toNat)
      case atStart => exact ⟨0, by omega, rfl, rfl, hid (Ext.refl _), hid (by simp)⟩
      case round =>
        obtain ⟨j, hj, rfl, rfl, HX2, HN⟩ := hrel
        by_cases h2 : j < k
        · obtain ⟨t, ht⟩ : ∃ t, l[j]? = some t := ⟨_, List.getElem?_eq_getElem (by have := HLN.out; omega)⟩
          have htk : (l.take k)[j]? = some t := by rw [List.getElem?_take_of_lt h2, ht]
          obtain ⟨b', off', rfl, -, e0, e1, e2, e3, e4⟩ := Sl.rel_at (HA2.out.ext HX2.out) htk
          have hto := HO.out t (List.mem_of_getElem? ht)
          have HJ := hid ht
          obtain ⟨st, ft, kt, yt, dt⟩ := t
          dsimp only at e0 e1 e2 e3 e4 hto
          obtain ⟨t1, t2⟩ := hto
          have d0 := HX2.out.cell HD01.out.1
          have d1 := HX2.out.cell HD01.out.2
          have hlt := World.block_lt_of_cell? _ _ d0
          have HX3 := hid (HX2.out.alloc (.cells #[.int .i64 st, .int .i64 ft, .int .i64 kt, .string yt, .int .i32 dt] 36))
          have hsb := shareB_eq ⟨sa, fa, ka, ya, da⟩ ⟨st, ft, kt, yt, dt⟩ _ _ _ rfl rfl rfl
          dsimp only at hsb
          by_cases q1 : sa = st
          · by_cases q2 : fa - ft < 4
            · by_cases q3 : ft - fa < 4
              · rw [decide_eq_true q1, decide_eq_true q2, decide_eq_true q3] at hsb
                obtain rfl : z = true := by rw [← HZ.out]; exact shared_hit HK.out (any_take_hit HJ.out hsb h2) HD.out
                have p1 : (sa == st) = true := by simpa using q1
                clear hsb ht htk q1
                go_wp2
                go_ret
                exact ⟨rfl, HX1.out.trans HX3.out⟩
              · rw [decide_eq_true q1, decide_eq_true q2, decide_eq_false q3] at hsb
                have HN2 := hid (any_take_step HJ.out hsb HN.out)
                have p1 : (sa == st) = true := by simpa using q1
                clear hsb ht htk q1
                go_wp2
                first
                  | go_roundw
                  | refine ⟨?rel, ?measure⟩
                case rel => exact ⟨j + 1, by omega, by go_num, rfl, HX3, HN2⟩
                case measure => simp [intOf]; omega
            · rw [decide_eq_true q1, decide_eq_false q2, Bool.false_and] at hsb
              have HN2 := hid (any_take_step HJ.out hsb HN.out)
              have p1 : (sa == st) = true := by simpa using q1
              clear hsb ht htk q1
              go_wp2
              first
                | go_roundw
                | refine ⟨?rel, ?measure⟩
              case rel => exact ⟨j + 1, by omega, by go_num, rfl, HX3, HN2⟩
              case measure => simp [intOf]; omega
          · rw [decide_eq_false q1, Bool.false_and] at hsb
            have HN2 := hid (any_take_step HJ.out hsb HN.out)
            have p1 : (sa == st) = false := by simpa using q1
            clear hsb ht htk q1
            go_wp2
            first
              | go_roundw
              | refine ⟨?rel, ?measure⟩
            case rel => exact ⟨j + 1, by omega, by go_num, rfl, HX3, HN2⟩
            case measure => simp [intOf]; omega
        · obtain rfl : j = k := by omega
          have HD2 := hid (shared_step HK.out HN.out HD.out)
          have HX4 := hid (HX1.out.trans HX2.out)
          go_wp2
          first
            | go_roundw
            | refine ⟨?rel, ?measure⟩
          case rel => exact ⟨j + 1, by omega, by go_num, rfl, HX4, HD2⟩
          case measure => simp [intOf]; omega
    · obtain rfl : k = n := by omega
      have hsh : sharedTo [] l = false := by
        have := HD.out
        rw [show k = l.length by have := HLN.out; omega] at this
        exact shared_end this
      obtain rfl : z = false := by rw [← HZ.out]; exact hsh
      clear hsh
      go_wp2
      go_ret
      exact ⟨rfl, HX.out⟩
end Go.Proofs.Ytnlofhbimfcejaa

namespace Go.Proofs.Ytnlofhbimfcejaa
open Go.RowKit Go.Deco
set_option linter.unusedSimpArgs false
set_option linter.unusedVariables false

theorem off_small {o : Ob} (h : secCheck o.secs = 0) (h1 : relsErr o.secs o.syms o.rels = 0) : ∀ r ∈ o.rels, 0 ≤ r.off ∧ r.off ≤ 65536 := by
  intro r hr
  obtain ⟨k, s, f, t, -, hs, hf, hl, -, -⟩ := relOne_zero (relsErr_each h1 r hr)
  have : ¬ 65536 < s.data.length := fun hb => secCheck_big hs hb h
  omega

set_option maxRecDepth 100000 in
set_option maxHeartbeats 4000000 in
theorem rlcheck_any (w : World) (o : Ob) (As Ay Ar : Option Addr) (ns cs ny cy nr cr : Nat) (hs : Sl secR w All (.slice As ns cs) o.secs) (hy : Sl symR w All (.slice Ay ny cy) o.syms) (hr : Sl relR w All (.slice Ar nr cr) o.rels) :
    Calls Try.prog 12 #[.agg #[.int .u32 o.entry, .slice As ns cs, .slice Ay ny cy, .slice Ar nr cr]] w (ErrIs w (obCheck o)) := by
  obtain ⟨z, hz⟩ : ∃ z, obCheck o = z := ⟨_, rfl⟩
  rw [hz]
  have HZ := hid hz
  have hln := hr.len
  have hrc := hr.cap
  obtain ⟨en, hen⟩ : ∃ en, o.entry = en := ⟨_, rfl⟩
  rw [hen]
  clear hz hen
  obtain ⟨W0, hW0⟩ : ∃ W0, w.alloc (.cells #[.int .u32 en, .slice As ns cs, .slice Ay ny cy, .slice Ar nr cr] 27) = W0 := ⟨_, rfl⟩
  have hE0 : Ext w W0 := by rw [← hW0]; exact (Ext.refl w).alloc _
  have o0 : W0.cell? ⟨w.heap.size, 0, none⟩ = some (.int .u32 en) := by rw [← hW0]; simp [go_sem]
  have o1 : W0.cell? ⟨w.heap.size, 1, none⟩ = some (.slice As ns cs) := by rw [← hW0]; simp [go_sem]
  have o2 : W0.cell? ⟨w.heap.size, 2, none⟩ = some (.slice Ay ny cy) := by rw [← hW0]; simp [go_sem]
  have o3 : W0.cell? ⟨w.heap.size, 3, none⟩ = some (.slice Ar nr cr) := by rw [← hW0]; simp [go_sem]
  have HO := hid (And.intro o0 (And.intro o1 (And.intro o2 o3)))
  have HE0 := hid hE0
  have HS := hid (hs.ext hE0)
  have HY := hid (hy.ext hE0)
  have HR := hid (hr.ext hE0)
  have HLN := hid hln
  clear hE0 hs hy hr hln o0 o2 o3
  go_enter Try.func12, Try.ntmps12
  go_wp2_with fail
  clear hW0 o1
  refine (check_any W0 All As ns cs o.secs HS.out).mono ?_
  rintro e w1 ⟨rfl, hx1⟩
  have HX1 := hid hx1
  clear hx1
  obtain ⟨q, hq⟩ : ∃ q, secCheck o.secs = q := ⟨_, rfl⟩
  rw [hq]
  have HQ := hid hq
  clear hq
  by_cases h1 : q = 0
  case neg =>
    obtain rfl : z = q := by rw [← HZ.out]; exact obCheck_secs HQ.out h1
    have n1 : ((z : Int) != 0) = true := by simpa using h1
    clear h1
    go_wp2
    go_ret
    exact ⟨rfl, HE0.out.trans HX1.out⟩
  subst h1
  have o2 := HX1.out.cell HO.out.2.2.1
  go_wp2_with fail
  clear o2
  refine (sycheck_any w1 Ay ny cy o.syms (HY.out.ext HX1.out)).mono ?_
  rintro e w2 ⟨rfl, hx2⟩
  have HX2 := hid (HX1.out.trans hx2)
  clear hx2
  obtain ⟨q, hq⟩ : ∃ q, symCheck o.syms = q := ⟨_, rfl⟩
  rw [hq]
  have HQ2 := hid hq
  clear hq
  by_cases h1 : q = 0
  case neg =>
    obtain rfl : z = q := by rw [← HZ.out]; exact obCheck_syms HQ.out HQ2.out h1
    have n1 : ((z : Int) != 0) = true := by simpa using h1
    clear h1
    go_wp2
    go_ret
    exact ⟨rfl, HE0.out.trans HX2.out⟩
  subst h1
  have o3 := HX2.out.cell HO.out.2.2.2
  by_cases hbig : 256 < nr
  · obtain rfl : z = 6 := by rw [← HZ.out]; exact obCheck_many HQ.out HQ2.out (by have := HLN.out; omega)
    go_wp2
    go_ret
    exact ⟨rfl, HE0.out.trans HX2.out⟩
  have HB : Hid (¬ 256 < o.rels.length) := hid (by have := HLN.out; omega)
  go_wp2
  clear o3
  go_loopw [27] (fun i wr => ∃ k : Nat, k ≤ nr ∧ i = .int .i64 k ∧ Hid (Ext W0 wr) ∧ Hid (relsErr o.secs o.syms (o.rels.drop k) = relsErr o.secs o.syms o.rels)) (fun i _ => nr - (intOf i).toNat)
  case atStart => exact ⟨0, by omega, rfl, HX2, hid rfl⟩
  case round =>
    obtain ⟨k, hk, rfl, HX, HF⟩ := hrel
    obtain ⟨o0, o1, o2, o3⟩ := HO.out
    have o0 := HX.out.cell o0
    have o1 := HX.out.cell o1
    have o2 := HX.out.cell o2
    have o3 := HX.out.cell o3
    have hlt := World.block_lt_of_cell? _ _ o0
    by_cases h1 : k < nr
    · obtain ⟨r, hk⟩ : ∃ r, o.rels[k]? = some r := ⟨_, List.getElem?_eq_getElem (by have := HLN.out; omega)⟩
      obtain ⟨b, off, rfl, -, c0, c1, c2, c3, c4⟩ := Sl.rel_at (HR.out.ext HX.out) hk
      have HK := hid hk
      have hcall := fun (W : World) (h : Ext wr W) => rlone_any W en As Ay (some ⟨b, off, none⟩) ns cs ny cy nr cr o.secs o.syms ((HS.out.ext HX.out).ext h) ((HY.out.ext HX.out).ext h) r
      obtain ⟨q, hq⟩ : ∃ q, relOne o.secs o.syms r = q := ⟨_, rfl⟩
      have HQ3 := hid hq
      clear hk hq
      obtain ⟨sec, of_, kd, sym, add⟩ := r
      dsimp only at c0 c1 c2 c3 c4 hcall
      have HC := hid hcall
      clear hcall
      go_wp2_with fail
      refine (HC.out _ ((Ext.refl wr).alloc _)).mono ?_
      rintro e w3 ⟨rfl, hx3⟩
      rw [HQ3.out]
      have HX3 := hid (HX.out.trans (((Ext.refl wr).alloc _).trans hx3))
      clear hx3 o0 o1 o2 o3 hlt c0 c1 c2 c3 c4 HC
      by_cases h2 : q = 0
      case neg =>
        obtain rfl : z = q := by rw [← HZ.out]; exact obCheck_rels HQ.out HQ2.out HB.out (relsErr_hit HK.out HQ3.out h2 HF.out) h2
        have n1 : ((z : Int) != 0) = true := by simpa using h2
        clear h2
        go_wp2
        go_ret
        exact ⟨rfl, HE0.out.trans HX3.out⟩
      subst h2
      have HF2 := hid (relsErr_step HK.out HQ3.out HF.out)
      go_wp2
      first
        | go_roundw
        | refine ⟨?rel, ?measure⟩
      case rel => exact ⟨k + 1, by omega, by go_num, HX3, HF2⟩
      case measure => simp [intOf]; omega
    · obtain rfl : k = nr := by omega
      have hF := HF.out
      rw [show k = o.rels.length by have := HLN.out; omega] at hF
      have hF0 := relsErr_end hF
      have HF0 := hid hF0
      clear hF hF0
      go_wp2_with fail
      refine (rlshared_any wr Ar k cr o.rels (HR.out.ext HX.out) (off_small HQ.out HF0.out)).mono ?_
      rintro e w3 ⟨rfl, hx3⟩
      have HX3 := hid (HX.out.trans hx3)
      obtain ⟨q, hq⟩ : ∃ q, sharedTo [] o.rels = q := ⟨_, rfl⟩
      rw [hq]
      have hzz := obCheck_last HQ.out HQ2.out HB.out HF0.out hq
      rw [HZ.out] at hzz
      clear hx3 hq o0 o1 o2 o3
      cases q with
      | true =>
        obtain rfl : z = 10 := hzz
        go_wp2
        go_ret
        exact ⟨rfl, HE0.out.trans HX3.out⟩
      | false =>
        obtain rfl : z = 0 := hzz
        go_wp2
        go_ret
        exact ⟨rfl, HE0.out.trans HX3.out⟩
end Go.Proofs.Ytnlofhbimfcejaa
