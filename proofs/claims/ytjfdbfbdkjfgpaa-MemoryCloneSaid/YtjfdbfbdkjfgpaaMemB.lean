/- The walks of the package 'memory': mapped, present. -/
import Derived.Test.YtjfdbfbdkjfgpaaMemA
import Derived.Test.YtjfdbfbdkjfgpaaClone8
import Derived.Maps.OwnOps
namespace Go.Proofs.Ytjfdbfbdkjfgpaa
open Go.RowKit Go.Deco Go.Maps

/-- What 'mapped' hands back. -/
def MappedPost (w0 w : World) (o : Option Reg) (e : Ending) (w' : World) : Prop :=
  Ext w w' ∧ match o with
    | none => e = .returned (.tuple #[.agg #[.int .u64 0, .slice none 0 0, .bool false, .bool false], .int .i64 11])
    | some r => ∃ dA dc, e = .returned (.tuple #[.agg #[.int .u64 r.from_, .slice dA r.data.length dc, .bool r.wr, .bool r.ex], .int .i64 0]) ∧ Sl u8R w0 All (.slice dA r.data.length dc) r.data ∧
        r.from_ + r.data.length ≤ 4294967295 ∧ r.data.length ≤ 65536

theorem findReg_has {l : List Reg} {a : Nat} {r : Reg} (h : findReg l a = some r) : r.from_ ≤ a ∧ a < r.from_ + r.data.length := by
  have := List.find?_some h
  simpa [Reg.has] using this

set_option maxRecDepth 100000 in
set_option maxHeartbeats 400000 in
theorem mapped_any (wo w : World) (ho : Ext wo w) (mb bm n : Nat) (regs : List Reg) (M : Nat → Option Nat) (hm : Mem wo mb bm regs M n) (a : Nat) (ha : a < 4294967296) (q : Nat) (hq : q ≤ 9223372036854775807) :
    Calls Try.prog 31 #[.pointer (some ⟨mb, 0, none⟩), .int .u32 a, .int .i64 q] w (MappedPost wo w (mappedReg regs a q)) := by
  have hf := hid (find_any wo (w.alloc (Obj.cells #[Value.int IntKind.u64 0, Value.slice none 0 0, Value.bool false, Value.bool false] 74)) (ho.alloc _) mb bm n regs M hm a ha)
  clear hm ho
  have hx0 := hid ((Ext.refl w).alloc (Obj.cells #[Value.int IntKind.u64 0, Value.slice none 0 0, Value.bool false, Value.bool false] 74))
  go_enter Try.func31, Try.ntmps31
  go_wp2_with fail
  refine hf.out.mono ?_
  rintro e w1 ⟨hx, hp⟩
  have hbs : w.heap.size < w1.heap.size := by have := hx.size; simp at this; omega
  have d0 : w1.cell? ⟨w.heap.size, 0, none⟩ = some (.int .u64 0) := hx.cell (by simp)
  have d1 : w1.cell? ⟨w.heap.size, 1, none⟩ = some (.slice none 0 0) := hx.cell (by simp)
  have d2 : w1.cell? ⟨w.heap.size, 2, none⟩ = some (.bool false) := hx.cell (by simp)
  have d3 : w1.cell? ⟨w.heap.size, 3, none⟩ = some (.bool false) := hx.cell (by simp)
  have df : ∀ i, w1.frozen? ⟨w.heap.size, i, none⟩ = false := fun i => (hx.frozen (by simp)).trans (by simp)
  have f0 := df 0
  have f1 := df 1
  have f2 := df 2
  have f3 := df 3
  have hX := hid (hx0.out.trans hx)
  clear df hx hx0 hf
  obtain ⟨o, ho⟩ : ∃ o, findReg regs a = o := ⟨_, rfl⟩
  rw [ho] at hp
  cases o with
  | none =>
    have HO := hid ho; clear ho
    subst hp
    go_wp2
    refine bodyPost_ret (v := .tuple #[.agg #[.int .u64 0, .slice none 0 0, .bool false, .bool false], .int .i64 11]) (by simp [results, Try.results31, go_sem, World.cell?_alloc_past, World.cell?_setCell_same, World.cell?_setCell_other, hbs, d0, d1, d2, d3]) rfl ?_
    rw [show mappedReg regs a q = none by rw [mappedReg, HO.out]]
    refine ⟨?_, rfl⟩
    exact (hX.out.set4 (Nat.le_refl _) _ _ _ _).alloc _
  | some r =>
    obtain ⟨dA, dc, rfl, hd, hs1, hs2⟩ := hp
    obtain ⟨r1, r2⟩ := findReg_has ho
    have HD := hid hd; clear hd
    have HO := hid ho; clear ho
    by_cases hc : r.from_ + r.data.length - a < q
    · have hc2 : (r.from_ : Int) + r.data.length - a < q := by omega
      go_wp2
      refine bodyPost_ret (v := .tuple #[.agg #[.int .u64 0, .slice none 0 0, .bool false, .bool false], .int .i64 11]) (by simp [results, Try.results31, go_sem, World.cell?_alloc_past, World.cell?_setCell_same, World.cell?_setCell_other, hbs, d0, d1, d2, d3]) rfl ?_
      rw [show mappedReg regs a q = none by rw [mappedReg, HO.out]; exact if_pos hc]
      refine ⟨?_, rfl⟩
      exact (hX.out.set4 (Nat.le_refl _) _ _ _ _).alloc _
    · have hc2 : ¬ (r.from_ : Int) + r.data.length - a < q := by omega
      go_wp2
      refine bodyPost_ret (v := .tuple #[.agg #[.int .u64 r.from_, .slice dA r.data.length dc, .bool r.wr, .bool r.ex], .int .i64 0]) (by simp [results, Try.results31, go_sem, World.cell?_alloc_past, World.cell?_setCell_same, World.cell?_setCell_other, hbs, d0, d1, d2, d3]) rfl ?_
      rw [show mappedReg regs a q = some r by rw [mappedReg, HO.out]; exact if_neg hc]
      refine ⟨?_, dA, dc, rfl, HD.out, hs1, hs2⟩
      exact (hX.out.set4 (Nat.le_refl _) _ _ _ _).alloc _

/-- A region as a value. -/
abbrev regV (r : Reg) (dA : Option Addr) (dc : Nat) : Value := .agg #[.int .u64 r.from_, .slice dA r.data.length dc, .bool r.wr, .bool r.ex]

/-- What 'present' hands back: a slice of the call's own. -/
def PresentPost (w : World) (l : List Nat) (e : Ending) (w' : World) : Prop := ∃ A c, e = .returned (.slice A l.length c) ∧ Own u8R w' w.heap.size 5 (.slice A l.length c) l ∧ Ext w w'

theorem presentOf_length (r : Reg) (M : Nat → Option Nat) (a n : Nat) : (presentOf r M a n).length = min n (r.from_ + r.data.length - a) := by simp [presentOf]

theorem law32 : Keyed Try.prog 23 := int_keyed Try.underlying23
theorem zero8 (w : World) : (zeroValue 5).run Try.prog w = .ok (.int .u8 0) w := by kernel_rfl

set_option maxRecDepth 100000 in
set_option maxHeartbeats 1000000 in
theorem present_any (wo w : World) (ho : Ext wo w) (mb bm n : Nat) (regs : List Reg) (M : Nat → Option Nat) (hm : Mem wo mb bm regs M n) (r : Reg) (dA : Option Addr) (dc : Nat) (hd : Sl u8R wo All (.slice dA r.data.length dc) r.data)
    (hs1 : r.from_ + r.data.length ≤ 4294967295) (hs2 : r.data.length ≤ 65536) (d q : Nat) (h2 : d < r.data.length) (hq : q ≤ 4294967296) :
    Calls Try.prog 32 #[.pointer (some ⟨mb, 0, none⟩), .agg #[.int .u64 r.from_, .slice dA r.data.length dc, .bool r.wr, .bool r.ex], .int .u32 (r.from_ + d : Nat), .int .i64 q] w (PresentPost w (presentOf r M (r.from_ + d) q)) := by
  obtain ⟨hlc, hcm⟩ := hd.cap
  obtain ⟨b, off, rfl⟩ := hd.at0 (by omega)
  obtain ⟨rA, rc, D, q0, q1, -, q3, q4⟩ := hm
  have HD := hid hd; clear hd
  have HO := hid ho; clear ho
  have HQ0 := hid q0; clear q0
  have HQ1 := hid q1; clear q1
  have HQ3 := hid q3; clear q3
  have HQ4 := hid q4; clear q4
  have main : ∀ m, m = min q (r.data.length - d) → presentOf r M (r.from_ + d) q = mixOf r M d m m := fun m hm => presentOf_eq r M d m q hm
  have MAIN := hid main; clear main
  have HE0 := hid ((Ext.refl w).alloc (Obj.cells #[.int .u64 r.from_, .slice (some ⟨b, off, none⟩) r.data.length dc, .bool r.wr, .bool r.ex] 74))
  by_cases g : d + q ≤ r.data.length
  all_goals
    go_enter Try.func32, Try.ntmps32
    go_wp2_with fail
  · obtain ⟨m, rfl⟩ : ∃ m, m = q := ⟨q, rfl⟩
    have HM := hid (show m = min m (r.data.length - d) by omega)
    have hmd : m + d ≤ r.data.length := by omega
    have hsub := (HD.out.ext (HO.out.trans HE0.out)).sub (i := d) (j := d + m) (by omega) (by omega)
    rw [show d + m - d = m by omega, show d * u8R.size = d from Nat.mul_one d] at hsub
    refine (clone8_any _ All (some ⟨b, off + d, none⟩) m (dc - d) ((r.data.drop d).take m) hsub (by omega)).mono ?_
    clear hsub
    rintro e w1 ⟨A', c', rfl, hown, hx⟩
    rw [← mixOf_zero r M d m hmd] at hown
    have HX := hid (HE0.out.trans hx)
    have HW := hid (hown.lower (base' := w.heap.size) (by simp))
    clear hown hx HE0
    obtain ⟨hmc, hcm2⟩ := HW.out.sl.cap
    go_wp2
    go_loopw [34] (fun i wr => ∃ k : Nat, k ≤ m ∧ i = .int .i64 k ∧ Hid (Ext w wr) ∧ Hid (Own u8R wr w.heap.size 5 (.slice A' m c') (mixOf r M d m k))) (fun i _ => m - (intOf i).toNat)
    case atStart => exact ⟨0, by omega, rfl, HX, HW⟩
    case round =>
      clear HX HW
      obtain ⟨k, hk, rfl, he, hw⟩ := hrel
      by_cases h1 : k < m
      · obtain ⟨gb, rfl, hgb, hgs⟩ := hw.out.at0 (by omega)
        obtain ⟨x0, hx0⟩ := mixOf_get r M d m k h1
        obtain ⟨cc, cf⟩ := hw.out.num_cell hx0
        have hwo := HO.out.trans he.out
        have p1 := hwo.cell HQ1.out
        have hmap := HQ3.out.kept (hwo.grownBy none) (by simp)
        have HMAP := hid hmap
        clear hx0 hwo hmap
        obtain ⟨hz, hh⟩ : ∃ z, Maps.has D (.int .u32 ((r.from_ : Int) + d + k)) = z := ⟨_, rfl⟩
        have ec := hid (show ((r.from_ + d + k : Nat) : Int) = (r.from_ : Int) + d + k by simp)
        cases hz with
        | true =>
          go_wp2_with (at_lookup; refine wpList_lookup_own_ok_int _ rfl _ _ 61 rfl 23 5 .u8 law32 Try.underlying61 Try.underlying5 (zero8 _) bm n D rfl HMAP.out _ _ rfl (keyOf_int_mk Try.underlying23 (WalkArith.wf_u32 (by omega))) ?_; intro c hat hwc; have HAT := hid hat; have HWC := hid hwc; clear hat hwc)
          go_roundw
          case rel =>
            have hb := wf8 HWC.out
            have hmx : M (r.from_ + d + k) = some c.toNat := by rw [HQ4.out]; exact mapOf_some (by rw [ec.out]; exact HAT.out) (by rw [ec.out]; exact hh)
            refine ⟨k + 1, by omega, by go_num, hid (he.out.setCell hgb _), hid ?_⟩
            have := hw.out.num_set (x := c.toNat) (by omega) k
            rw [mixOf_set r M d m k h1 _ hmx, show ((c.toNat : Nat) : Int) = c by omega] at this
            exact this
          case measure => simp [intOf]; omega
        | false =>
          go_wp2_with (at_lookup; refine wpList_lookup_own_ok_int _ rfl _ _ 61 rfl 23 5 .u8 law32 Try.underlying61 Try.underlying5 (zero8 _) bm n D rfl HMAP.out _ _ rfl (keyOf_int_mk Try.underlying23 (WalkArith.wf_u32 (by omega))) ?_; intro c hat hwc; have HAT := hid hat; have HWC := hid hwc; clear hat hwc)
          go_roundw
          case rel =>
            have hmx : M (r.from_ + d + k) = none := by rw [HQ4.out]; exact mapOf_none (by rw [ec.out]; exact hh)
            refine ⟨k + 1, by omega, by go_num, he, hid ?_⟩
            rw [← mixOf_skip r M d m k hmx]
            exact hw.out
          case measure => simp [intOf]; omega
      · obtain rfl : m = k := by omega
        go_wp2
        go_ret
        refine ⟨A', c', ?_, ?_, he.out⟩
        · rw [MAIN.out _ HM.out, mixOf_length]; rfl
        · rw [MAIN.out _ HM.out, mixOf_length]; exact hw.out
  · obtain ⟨m, hm⟩ : ∃ m, r.data.length - d = m := ⟨_, rfl⟩
    rw [hm]
    have HM := hid (show m = min q (r.data.length - d) by omega)
    have hmd : m + d ≤ r.data.length := by omega
    clear hm
    have hsub := (HD.out.ext (HO.out.trans HE0.out)).sub (i := d) (j := d + m) (by omega) (by omega)
    rw [show d + m - d = m by omega, show d * u8R.size = d from Nat.mul_one d] at hsub
    refine (clone8_any _ All (some ⟨b, off + d, none⟩) m (dc - d) ((r.data.drop d).take m) hsub (by omega)).mono ?_
    clear hsub
    rintro e w1 ⟨A', c', rfl, hown, hx⟩
    rw [← mixOf_zero r M d m hmd] at hown
    have HX := hid (HE0.out.trans hx)
    have HW := hid (hown.lower (base' := w.heap.size) (by simp))
    clear hown hx HE0
    obtain ⟨hmc, hcm2⟩ := HW.out.sl.cap
    go_wp2
    go_loopw [34] (fun i wr => ∃ k : Nat, k ≤ m ∧ i = .int .i64 k ∧ Hid (Ext w wr) ∧ Hid (Own u8R wr w.heap.size 5 (.slice A' m c') (mixOf r M d m k))) (fun i _ => m - (intOf i).toNat)
    case atStart => exact ⟨0, by omega, rfl, HX, HW⟩
    case round =>
      clear HX HW
      obtain ⟨k, hk, rfl, he, hw⟩ := hrel
      by_cases h1 : k < m
      · obtain ⟨gb, rfl, hgb, hgs⟩ := hw.out.at0 (by omega)
        obtain ⟨x0, hx0⟩ := mixOf_get r M d m k h1
        obtain ⟨cc, cf⟩ := hw.out.num_cell hx0
        have hwo := HO.out.trans he.out
        have p1 := hwo.cell HQ1.out
        have hmap := HQ3.out.kept (hwo.grownBy none) (by simp)
        have HMAP := hid hmap
        clear hx0 hwo hmap
        obtain ⟨hz, hh⟩ : ∃ z, Maps.has D (.int .u32 ((r.from_ : Int) + d + k)) = z := ⟨_, rfl⟩
        have ec := hid (show ((r.from_ + d + k : Nat) : Int) = (r.from_ : Int) + d + k by simp)
        cases hz with
        | true =>
          go_wp2_with (at_lookup; refine wpList_lookup_own_ok_int _ rfl _ _ 61 rfl 23 5 .u8 law32 Try.underlying61 Try.underlying5 (zero8 _) bm n D rfl HMAP.out _ _ rfl (keyOf_int_mk Try.underlying23 (WalkArith.wf_u32 (by omega))) ?_; intro c hat hwc; have HAT := hid hat; have HWC := hid hwc; clear hat hwc)
          go_roundw
          case rel =>
            have hb := wf8 HWC.out
            have hmx : M (r.from_ + d + k) = some c.toNat := by rw [HQ4.out]; exact mapOf_some (by rw [ec.out]; exact HAT.out) (by rw [ec.out]; exact hh)
            refine ⟨k + 1, by omega, by go_num, hid (he.out.setCell hgb _), hid ?_⟩
            have := hw.out.num_set (x := c.toNat) (by omega) k
            rw [mixOf_set r M d m k h1 _ hmx, show ((c.toNat : Nat) : Int) = c by omega] at this
            exact this
          case measure => simp [intOf]; omega
        | false =>
          go_wp2_with (at_lookup; refine wpList_lookup_own_ok_int _ rfl _ _ 61 rfl 23 5 .u8 law32 Try.underlying61 Try.underlying5 (zero8 _) bm n D rfl HMAP.out _ _ rfl (keyOf_int_mk Try.underlying23 (WalkArith.wf_u32 (by omega))) ?_; intro c hat hwc; have HAT := hid hat; have HWC := hid hwc; clear hat hwc)
          go_roundw
          case rel =>
            have hmx : M (r.from_ + d + k) = none := by rw [HQ4.out]; exact mapOf_none (by rw [ec.out]; exact hh)
            refine ⟨k + 1, by omega, by go_num, he, hid ?_⟩
            rw [← mixOf_skip r M d m k hmx]
            exact hw.out
          case measure => simp [intOf]; omega
      · obtain rfl : m = k := by omega
        go_wp2
        go_ret
        refine ⟨A', c', ?_, ?_, he.out⟩
        · rw [MAIN.out _ HM.out, mixOf_length]; rfl
        · rw [MAIN.out _ HM.out, mixOf_length]; exact hw.out
end Go.Proofs.Ytjfdbfbdkjfgpaa
