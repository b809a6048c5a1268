/- The reference's walks over sections: end, Name, one. -/
import Derived.Test.YtnlofhbimfcejaaRows
import Derived.Test.YtnlofhbimfcejaaSpecSec
import Derived.Test.YtnlofhbimfcejaaReg
namespace Go.Proofs.Ytnlofhbimfcejaa
open Go.RowKit Go.Deco
set_option linter.unusedSimpArgs false
set_option linter.unusedVariables false

def IntIs (w : World) (n : Nat) (e : Ending) (w' : World) : Prop := e = .returned (.int .i64 n) ∧ Ext w w'

set_option maxRecDepth 100000 in
set_option maxHeartbeats 400000 in
theorem end5_any (w : World) (s : Sec) (A : Option Addr) (c : Nat) (hm : s.data.length ≤ 4611686018427387904) (ha : s.addr < 4294967296) :
    Calls Try.prog 55 #[.agg #[.string s.name, .int .u32 s.addr, .slice A s.data.length c, .bool s.wr, .bool s.ex]] w (IntIs w (secTo s)) := by
  obtain ⟨x, hx⟩ : ∃ x, secTo s = x := ⟨_, rfl⟩
  rw [hx]
  unfold secTo at hx
  generalize s.data.length = m at *
  generalize s.addr = a at *
  by_cases h : 4294967295 < a + m
  · have HX := hid (show x = 4294967295 by omega)
    clear hx
    go_enter Try.func55, Try.ntmps55
    go_wp2
    go_ret
    exact ⟨ret_int (by rw [HX.out]; rfl), (Ext.refl w).alloc _⟩
  · have HX := hid (show x = a + m by omega)
    clear hx
    go_enter Try.func55, Try.ntmps55
    go_wp2
    go_ret
    exact ⟨ret_int (by rw [HX.out]; simp), (Ext.refl w).alloc _⟩

def BoolSame (w : World) (b : Bool) (e : Ending) (w' : World) : Prop := e = .returned (.bool b) ∧ w = w'
set_option maxRecDepth 100000 in
set_option maxHeartbeats 1000000 in
theorem name5_any (w : World) (s : ByteArray) (hs : s.size ≤ 9223372036854775807) :
    Calls Try.prog 56 #[.string s] w (BoolSame w (nameB s)) := by
  obtain ⟨z, hz⟩ : ∃ z, nameB s = z := ⟨_, rfl⟩
  rw [hz]
  have HZ := hid hz; clear hz
  go_enter Try.func56, Try.ntmps56
  go_wp2
  go_loop [3] (fun i => ∃ k : Nat, k ≤ s.size ∧ i = .int .i64 k ∧ Hid (∀ j, j < k → okCh (chAt s j) = true)) (fun i => s.size - (intOf i).toNat)
  case atStart => exact ⟨0, by omega, rfl, hid (by omega)⟩
  case round =>
    obtain ⟨k, hk, rfl, hok⟩ := hrel
    by_cases h1 : k < s.size
    · obtain ⟨c, hc⟩ : ∃ c, s[k].toNat = c := ⟨_, rfl⟩
      have hch : chAt s k = c := by
        rw [← hc]
        unfold chAt
        rw [List.getElem?_eq_getElem (by simpa using h1)]
        rfl
      have hok' : okCh c = true → Hid (∀ j, j < k + 1 → okCh (chAt s j) = true) := fun h => hid (by
        intro j hj
        rcases Nat.lt_or_ge j k with h2 | h2
        · exact hok.out j h2
        · obtain rfl : j = k := by omega
          rw [hch]; exact h)
      have hno' : okCh c = false → false = z := fun h => by
        rw [← HZ.out]
        exact nameB_no h1 (by rw [hch, h]; simp)
      have HOK := hid hok'
      have HNO := hid hno'
      clear hok' hno' hch
      have hcs : c < 46 ∨ c = 46 ∨ c = 47 ∨ (48 ≤ c ∧ c ≤ 57) ∨ (58 ≤ c ∧ c ≤ 64) ∨ (65 ≤ c ∧ c ≤ 90) ∨ (91 ≤ c ∧ c ≤ 94) ∨ c = 95 ∨ c = 96 ∨ (97 ≤ c ∧ c ≤ 122) ∨ 123 ≤ c := by omega
      rcases hcs with h | rfl | rfl | ⟨h, h'⟩ | ⟨h, h'⟩ | ⟨h, h'⟩ | ⟨h, h'⟩ | rfl | rfl | ⟨h, h'⟩ | h
      all_goals
        try have hn1 : ((c : Int) != 95) = true := by simp; omega
        try have hn2 : ((c : Int) != 46) = true := by simp; omega
        go_wp2
        all_goals first
          | (exfalso; rename_i hz; simp at hz; omega)
          | (go_ret
             exact ⟨ret_bool (HNO.out (by simp [okCh]; try omega)), rfl⟩)
          | (go_round
             case rel => exact ⟨k + 1, by omega, by go_num, HOK.out (by simp [okCh]; try omega)⟩
             case measure => simp [intOf]; omega)
    · have hall := hok.out
      by_cases h0 : 1 ≤ s.size
      · have HN := hid (nameB_yes (fun j hj => hall j (by omega)) h0)
        clear hall
        go_wp2
        go_ret
        exact ⟨ret_bool (by rw [← HZ.out, ← HN.out]), rfl⟩
      · have HN := hid (nameB_zero h0)
        clear hall
        go_wp2
        go_ret
        exact ⟨ret_bool (by rw [← HZ.out, ← HN.out]), rfl⟩
end Go.Proofs.Ytnlofhbimfcejaa
