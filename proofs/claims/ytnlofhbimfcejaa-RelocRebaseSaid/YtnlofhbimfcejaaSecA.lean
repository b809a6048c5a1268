/- The walks of the package 'section': names, address ranges. -/
import Derived.Test.YtnlofhbimfcejaaRows
import Derived.Test.YtnlofhbimfcejaaSpecSec
import Derived.Deep.RegionHeld3
namespace Go.Proofs.Ytnlofhbimfcejaa
open Go.RowKit Go.Deco

set_option maxRecDepth 100000 in
set_option maxHeartbeats 400000 in
theorem stack_any (w : World) :
    Calls Try.prog 50 #[] w fun e w' => e = .returned (.agg #[.int .u32 978944, .int .u32 983040]) ∧ Ext w w' := by
  go_enter Try.func50, Try.ntmps50
  go_wp2
  refine bodyPost_ret (v := .agg #[.int .u32 978944, .int .u32 983040]) (by simp [results, Try.results50, go_sem]) rfl ⟨rfl, ?_⟩
  exact ((Ext.refl w).alloc _)

set_option maxRecDepth 100000 in
set_option maxHeartbeats 400000 in
theorem space_any (w : World) (s : Sec) (A : Option Addr) (c : Nat) (hm : s.data.length ≤ 9223372036854775807) (ha : s.addr < 4294967296) :
    Calls Try.prog 49 #[.agg #[.string s.name, .int .u32 s.addr, .slice A s.data.length c, .bool s.wr, .bool s.ex]] w fun e w' =>
      e = .returned (.agg #[.int .u32 s.addr, .int .u32 (secTo s : Nat)]) ∧ Ext w w' := by
  unfold secTo
  generalize s.data.length = m at *
  generalize s.addr = a at *
  go_enter Try.func49, Try.ntmps49
  go_wp2
  all_goals
    refine bodyPost_ret (v := .agg #[.int .u32 a, .int .u32 (min (a + m) 4294967295 : Nat)]) (by simp [results, Try.results49, go_sem]; omega) rfl ⟨rfl, ?_⟩
    exact (((Ext.refl w).alloc _).alloc _)

set_option maxRecDepth 100000 in
set_option maxHeartbeats 400000 in
theorem meet_any (w : World) (a b c d : Nat) :
    Calls Try.prog 48 #[.agg #[.int .u32 a, .int .u32 b], .agg #[.int .u32 c, .int .u32 d]] w fun e w' =>
      e = .returned (.bool (meetN a b c d)) ∧ Ext w w' := by
  go_enter Try.func48, Try.ntmps48
  go_wp2
  all_goals
    go_ret
    exact ⟨by simp [meetN]; omega, ((Ext.refl w).alloc _).alloc _⟩

set_option maxRecDepth 100000 in
set_option maxHeartbeats 400000 in
theorem same_any (w : World) (x : Sec) (A : Option Addr) (c : Nat) (b : Nat) (nm : ByteArray) (hc : w.cell? ⟨b, 0, none⟩ = some (.string nm)) :
    Calls Try.prog 46 #[.agg #[.string x.name, .int .u32 x.addr, .slice A x.data.length c, .bool x.wr, .bool x.ex], .pointer (some ⟨b, 0, none⟩)] w fun e w' =>
      e = .returned (.bool (x.name.toList == nm.toList)) ∧ Ext w w' := by
  have hb := World.block_lt_of_cell? _ _ hc
  go_enter Try.func46, Try.ntmps46
  go_wp2
  go_ret
  exact ⟨rfl, (Ext.refl w).alloc _⟩

set_option maxRecDepth 100000 in
set_option maxHeartbeats 400000 in
theorem over_any (w : World) (x s : Sec) (A A' : Option Addr) (c c' : Nat) (b : Nat) (hm : x.data.length ≤ 9223372036854775807) (ha : x.addr < 4294967296) (hm' : s.data.length ≤ 9223372036854775807) (ha' : s.addr < 4294967296)
    (c0 : w.cell? ⟨b, 0, none⟩ = some (.string s.name)) (c1 : w.cell? ⟨b, 1, none⟩ = some (.int .u32 s.addr)) (c2 : w.cell? ⟨b, 2, none⟩ = some (.slice A' s.data.length c')) (c3 : w.cell? ⟨b, 3, none⟩ = some (.bool s.wr)) (c4 : w.cell? ⟨b, 4, none⟩ = some (.bool s.ex)) :
    Calls Try.prog 51 #[.agg #[.string x.name, .int .u32 x.addr, .slice A x.data.length c, .bool x.wr, .bool x.ex], .pointer (some ⟨b, 0, none⟩)] w fun e w' =>
      e = .returned (.bool (secMeet x s)) ∧ Ext w w' := by
  have hb := World.block_lt_of_cell? _ _ c0
  go_enter Try.func51, Try.ntmps51
  go_wp2
  have hE := hid ((Ext.refl w).alloc (Obj.cells #[Value.string x.name, Value.int IntKind.u32 ↑x.addr, Value.slice A x.data.length c, Value.bool x.wr, Value.bool x.ex] 46))
  go_region_held3 (fun w' => Hid (Ext w w') ∧ w'.cell? ⟨w.heap.size, 0, none⟩ = some (.string x.name) ∧ w'.cell? ⟨w.heap.size, 1, none⟩ = some (.int .u32 x.addr) ∧ w'.cell? ⟨w.heap.size, 2, none⟩ = some (.slice A x.data.length c) ∧ w'.cell? ⟨w.heap.size, 3, none⟩ = some (.bool x.wr) ∧ w'.cell? ⟨w.heap.size, 4, none⟩ = some (.bool x.ex) ∧
      w'.cell? ⟨b, 0, none⟩ = some (.string s.name) ∧ w'.cell? ⟨b, 1, none⟩ = some (.int .u32 s.addr) ∧ w'.cell? ⟨b, 2, none⟩ = some (.slice A' s.data.length c') ∧ w'.cell? ⟨b, 3, none⟩ = some (.bool s.wr) ∧ w'.cell? ⟨b, 4, none⟩ = some (.bool s.ex))
    (first
      | (refine ⟨hid (Ext.drew hE.out), ?_⟩; go_keep)
      | (refine ⟨hid (Ext.drew hE.out), ?_⟩; simp [go_sem, World.cell?_alloc_past, *])
      | (go_split_ands
         refine ⟨?_, ?_, ?_, ?_, ?_, ?_, ?_, ?_, ?_, ?_, ?_⟩
         · first | exact hid (Ext.drew (Hid.out (by assumption))) | exact hid (Ext.trans (Hid.out (by assumption)) hx.out)
         all_goals (first | assumption | (exact hx.out.cell (by assumption)))))
    ((first
      | (go_at_call 49; (with_reducible refine (space_any _ x _ _ hm ha).mono ?_); rintro e w1 ⟨rfl, hx⟩; have hx := hid hx)
      | (go_at_call 49; (with_reducible refine (space_any _ s _ _ hm' ha').mono ?_); rintro e w1 ⟨rfl, hx⟩; have hx := hid hx)
      | (go_at_call 48; (with_reducible refine (meet_any _ _ _ _ _).mono ?_); rintro e w1 ⟨rfl, hx⟩; have hx := hid hx)))
  go_wp2
  go_ret
  refine ⟨rfl, ?_⟩
  rename_i hS
  exact hS.1.out

set_option maxRecDepth 100000 in
set_option maxHeartbeats 400000 in
theorem name_any (w : World) (s : ByteArray) (hs : s.size ≤ 9223372036854775807) :
    Calls Try.prog 47 #[.string s] w fun e w' => e = .returned (.bool (nameB s)) ∧ Ext w w' := by
  have hcv := fun w s => run_bytes_of_string (P := Try.prog) w 9 44 5 s Try.underlying9 Try.underlying44 Try.underlying5
  have hb := bytes_cell w s (grownCap w s.size 0 5) 5
  have hx := hid (((Ext.refl w).alloc (.cells (bytesRow s (grownCap w s.size 0 5)) 5 ((bytesRow s (grownCap w s.size 0 5)).size, (bytesRow s (grownCap w s.size 0 5)).size + 1))).drew)
  go_enter Try.func47, Try.ntmps47
  go_wp2
  generalize grownCap w s.size 0 5 = cap at *
  clear hcv
  go_loop [8] (fun i => ∃ k : Nat, k ≤ s.size ∧ i = .int .i64 k ∧ ∀ j, j < k → okCh (chAt s j) = true) (fun i => s.size - (intOf i).toNat)
  case atStart => exact ⟨0, by omega, rfl, by omega⟩
  case round =>
    obtain ⟨k, hk, rfl, hall⟩ := hrel
    have HA := hid hall; clear hall
    by_cases h1 : k < s.size
    · have hc := hb (bytesRow s cap).size k h1
      have hlt := chAt_lt s k
      obtain ⟨c, hcc⟩ : ∃ c, c = chAt s k := ⟨_, rfl⟩
      rw [← hcc] at hc hlt
      have HC := hid hcc; clear hcc hb
      by_cases ho : okCh c = true
      · have HO := hid ho
        rw [okCh_iff] at ho
        rcases ho with ⟨h2, h3⟩ | ⟨h2, h3⟩ | ⟨h2, h3⟩ | rfl | rfl
        all_goals
          go_wp2
          go_round
          case rel =>
            refine ⟨k + 1, by omega, by go_num, fun j hj => ?_⟩
            rcases Nat.lt_or_ge j k with h | h
            · exact HA.out j h
            · rw [show j = k by omega, ← HC.out]
              exact HO.out
          case measure => simp [intOf]; omega
      · have HO := hid ho
        rw [okCh_iff] at ho
        have n1 : c < 97 ∨ 122 < c := by omega
        have n2 : c < 65 ∨ 90 < c := by omega
        have n3 : c < 48 ∨ 57 < c := by omega
        have n4 : ((c : Int) != 95) = true := by simp; omega
        have n5 : ((c : Int) != 46) = true := by simp; omega
        clear ho
        rcases n1 with n1 | n1
        · rcases n2 with n2 | n2
          · rcases n3 with n3 | n3
            all_goals
              go_wp2
              go_ret
              exact ⟨ret_bool (nameB_no h1 (by rw [← HC.out]; exact HO.out)), hx.out⟩
          · go_wp2
            go_ret
            exact ⟨ret_bool (nameB_no h1 (by rw [← HC.out]; exact HO.out)), hx.out⟩
        · go_wp2
          go_ret
          exact ⟨ret_bool (nameB_no h1 (by rw [← HC.out]; exact HO.out)), hx.out⟩
    · obtain rfl : k = s.size := by omega
      by_cases h2 : 1 ≤ s.size
      · go_wp2
        go_ret
        exact ⟨ret_bool (nameB_yes HA.out h2), hx.out⟩
      · go_wp2
        go_ret
        exact ⟨ret_bool (nameB_zero h2), hx.out⟩
end Go.Proofs.Ytnlofhbimfcejaa
