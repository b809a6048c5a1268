/- The walks of the package 'memory': made, valid, find, mapped. -/
import Derived.Test.YtjfdbfbdkjfgpaaRows
import Derived.Test.YtjfdbfbdkjfgpaaSpecMem
namespace Go.Proofs.Ytjfdbfbdkjfgpaa
open Go.RowKit Go.Deco

abbrev Mem (w : World) (mb bm : Nat) (regs : List Reg) (M : Nat → Option Nat) (n : Nat) : Prop := MemAt Try.prog 23 5 w mb bm regs M n

set_option maxRecDepth 100000 in
set_option maxHeartbeats 400000 in
theorem made_any (w : World) (mb bm n : Nat) (regs : List Reg) (M : Nat → Option Nat) (hm : Mem w mb bm regs M n) :
    Calls Try.prog 29 #[.pointer (some ⟨mb, 0, none⟩)] w fun e w' => e = .returned (.bool true) ∧ w = w' := by
  obtain ⟨A, c, D, h0, h1, h2, h3, h4⟩ := hm
  clear h2 h3 h4
  have hz := fun (w : World) (r : Option Nat) => run_neq_map_nil (P := Try.prog) w 61 23 5 r Try.underlying61
  go_enter Try.func29, Try.ntmps29
  go_wp2
  go_ret
  exact ⟨rfl, rfl⟩

set_option maxRecDepth 100000 in
set_option maxHeartbeats 400000 in
theorem valid_any (w : World) (x : Int) :
    Calls Try.prog 30 #[.int .i64 x] w fun e w' => e = .returned (.bool (okWidth x)) ∧ w = w' := by
  go_enter Try.func30, Try.ntmps30
  go_wp2
  all_goals
    go_ret
    first
      | exact ⟨rfl, rfl⟩
      | exact ⟨ret_bool (by simp_all [okWidth]), rfl⟩

/-- What 'find' hands back. -/
def FindPost (w0 w : World) (o : Option Reg) (e : Ending) (w' : World) : Prop :=
  Ext w w' ∧ match o with
    | none => e = .returned (.tuple #[.agg #[.int .u64 0, .slice none 0 0, .bool false, .bool false], .bool false])
    | some r => ∃ dA dc, e = .returned (.tuple #[.agg #[.int .u64 r.from_, .slice dA r.data.length dc, .bool r.wr, .bool r.ex], .bool true]) ∧ Sl u8R w0 All (.slice dA r.data.length dc) r.data ∧
        r.from_ + r.data.length ≤ 4294967295 ∧ r.data.length ≤ 65536

set_option maxRecDepth 100000 in
set_option maxHeartbeats 400000 in
theorem find_any (wo w : World) (ho : Ext wo w) (mb bm n : Nat) (regs : List Reg) (M : Nat → Option Nat) (hm : Mem wo mb bm regs M n) (a : Nat) (ha : a < 4294967296) :
    Calls Try.prog 33 #[.pointer (some ⟨mb, 0, none⟩), .int .u32 a] w (FindPost wo w (findReg regs a)) := by
  obtain ⟨A, c, D, h0, h1, h2, h3, h4⟩ := hm
  clear h3 h4
  obtain ⟨hlc, hcm⟩ := h2.cap
  obtain ⟨N, hN⟩ : ∃ N, regs.length = N := ⟨_, rfl⟩
  rw [hN] at h0 h2 hlc
  have h0 := ho.cell h0
  have h1 := ho.cell h1
  have hb := World.block_lt_of_cell? _ _ h0
  have HO := hid ho; clear ho
  have HS := hid h2; clear h2
  have HL := hid hN; clear hN
  go_enter Try.func33, Try.ntmps33
  go_wp2
  obtain ⟨w0, hw0⟩ : ∃ w0, w.alloc (Obj.cells #[Value.int IntKind.u64 0, Value.slice none 0 0, Value.bool false, Value.bool false] 74) = w0 := ⟨_, rfl⟩
  have hE0 : Ext w w0 := by rw [← hw0]; exact (Ext.refl w).alloc _
  have d0 : w0.cell? ⟨w.heap.size, 0, none⟩ = some (.int .u64 0) := by rw [← hw0]; simp
  have d1 : w0.cell? ⟨w.heap.size, 1, none⟩ = some (.slice none 0 0) := by rw [← hw0]; simp
  have d2 : w0.cell? ⟨w.heap.size, 2, none⟩ = some (.bool false) := by rw [← hw0]; simp
  have d3 : w0.cell? ⟨w.heap.size, 3, none⟩ = some (.bool false) := by rw [← hw0]; simp
  have df : ∀ i, w0.frozen? ⟨w.heap.size, i, none⟩ = false := by intro i; rw [← hw0]; simp
  rw [hw0]
  have HD := hid (And.intro d0 (And.intro d1 (And.intro d2 (And.intro d3 df))))
  have HE0 := hid hE0
  clear hw0 hE0 d0 d1 d2 d3 df h0 h1
  go_loopw [14] (fun i wr => ∃ k : Nat, k ≤ N ∧ i = .int .i64 k ∧ Hid (Ext w0 wr) ∧ Hid (∀ j, j < k → ∀ y, regs[j]? = some y → y.has a = false)) (fun i _ => N - (intOf i).toNat)
  case atStart => exact ⟨0, by omega, rfl, hid (Ext.refl w0), hid (by omega)⟩
  case round =>
    obtain ⟨k, hk, rfl, he, hn⟩ := hrel
    obtain ⟨d0, d1, d2, d3, df⟩ := HD.out
    have hbs : w.heap.size < w0.heap.size := World.block_lt_of_cell? _ _ d0
    have hbr : w.heap.size < wr.heap.size := Nat.lt_of_lt_of_le hbs he.out.size
    have d0 := he.out.cell d0
    have d1 := he.out.cell d1
    have d2 := he.out.cell d2
    have d3 := he.out.cell d3
    have f0 := (he.out.frozen (p := ⟨w.heap.size, 0, none⟩) hbs).trans (df 0)
    have f1 := (he.out.frozen (p := ⟨w.heap.size, 1, none⟩) hbs).trans (df 1)
    have f2 := (he.out.frozen (p := ⟨w.heap.size, 2, none⟩) hbs).trans (df 2)
    have f3 := (he.out.frozen (p := ⟨w.heap.size, 3, none⟩) hbs).trans (df 3)
    clear df hbs
    by_cases h1 : k < N
    · obtain ⟨s, hs⟩ : ∃ s, regs[k]? = some s := ⟨_, List.getElem?_eq_getElem (by have := HL.out; omega)⟩
      obtain ⟨b, off, dA, dc, rfl, hd, hsum, hdl, c0, c1, c2, c3⟩ := HS.out.reg_at hs
      have hww := HO.out.trans (HE0.out.trans he.out)
      have c0 := hww.cell c0
      have c1 := hww.cell c1
      have c2 := hww.cell c2
      have c3 := hww.cell c3
      clear hww
      have HDt := hid hd; clear hd
      have HK := hid hs; clear hs
      by_cases g1 : s.from_ ≤ a
      · by_cases g2 : a < s.from_ + s.data.length
        · go_wp2
          refine bodyPost_ret (v := .tuple #[.agg #[.int .u64 s.from_, .slice dA s.data.length dc, .bool s.wr, .bool s.ex], .bool true]) (by simp [results, Try.results33, go_sem, World.cell?_alloc_past, World.cell?_setCell_same, World.cell?_setCell_other, hbr, d0, d1, d2, d3]) rfl ?_
          have hh : s.has a = true := by simp [Reg.has, g1, g2]
          rw [findReg_hit hn.out HK.out hh]
          have hx : Ext w (((((wr.setCell ⟨w.heap.size, 0, none⟩ (.int .u64 s.from_)).setCell ⟨w.heap.size, 1, none⟩ (.slice dA s.data.length dc)).setCell ⟨w.heap.size, 2, none⟩ (.bool s.wr)).setCell ⟨w.heap.size, 3, none⟩ (.bool s.ex)).alloc (.cells #[.int .u64 s.from_, .slice dA s.data.length dc, .bool s.wr, .bool s.ex] 74)) :=
            (((((HE0.out.trans he.out).setCell (Nat.le_refl _) _).setCell (Nat.le_refl _) _).setCell (Nat.le_refl _) _).setCell (Nat.le_refl _) _).alloc _
          exact ⟨hx, dA, dc, rfl, HDt.out, hsum, hdl⟩
        · go_wp2
          go_roundw
          case rel =>
            refine ⟨k + 1, by omega, by go_num, hid (he.out.alloc _), hid fun j hj y hy => ?_⟩
            rcases Nat.lt_or_ge j k with h | h
            · exact hn.out j h y hy
            · obtain rfl : j = k := by omega
              have := HK.out.symm.trans hy
              injection this with this
              rw [← this]; simp [Reg.has]; omega
          case measure => simp [intOf]; omega
      · go_wp2
        go_roundw
        case rel =>
          refine ⟨k + 1, by omega, by go_num, hid (he.out.alloc _), hid fun j hj y hy => ?_⟩
          rcases Nat.lt_or_ge j k with h | h
          · exact hn.out j h y hy
          · obtain rfl : j = k := by omega
            have := HK.out.symm.trans hy
            injection this with this
            rw [← this]; simp [Reg.has]; omega
        case measure => simp [intOf]; omega
    · go_wp2
      refine bodyPost_ret (v := .tuple #[.agg #[.int .u64 0, .slice none 0 0, .bool false, .bool false], .bool false]) (by simp [results, Try.results33, go_sem, World.cell?_setCell_same, World.cell?_setCell_other, d0, d1, d2, d3]) rfl ?_
      rw [findReg_miss (fun j hj => hn.out j (by have := HL.out; omega))]
      exact ⟨((((HE0.out.trans he.out).setCell (Nat.le_refl _) _).setCell (Nat.le_refl _) _).setCell (Nat.le_refl _) _).setCell (Nat.le_refl _) _, rfl⟩
end Go.Proofs.Ytjfdbfbdkjfgpaa
