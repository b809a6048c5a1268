/- image: Put of four bytes; slices.Clone at sections, symbols, relocations. -/
import Derived.Test.YtnlofhbimfcejaaRelD
import Derived.Test.YtnlofhbimfcejaaClone8
import Derived.Test.YtnlofhbimfcejaaApp
import Derived.Test.YtnlofhbimfcejaaHdr
import Derived.Test.YtnlofhbimfcejaaCpy
namespace Go.Proofs.Ytnlofhbimfcejaa
open Go.RowKit Go.Deco
set_option linter.unusedSimpArgs false
set_option linter.unusedVariables false

theorem info_secH : (Try.prog.info? 46).map (fun i => (i.zero, i.size, i.bytes)) = some (some (.agg #[.string ⟨#[]⟩, .int .u32 0, .slice none 0 0, .bool false, .bool false]), 5, 56) := by kernel_rfl
theorem info_symH : (Try.prog.info? 68).map (fun i => (i.zero, i.size, i.bytes)) = some (some (.agg #[.string ⟨#[]⟩, .int .u32 0, .int .i64 0]), 3, 32) := by kernel_rfl

set_option maxRecDepth 100000 in
set_option maxHeartbeats 400000 in
theorem valid4_any (w : World) : Calls Try.prog 80 #[.int .i64 4] w fun e w' => e = .returned (.bool true) ∧ w = w' := by
  go_enter Try.func80, Try.ntmps80
  go_wp2
  go_ret
  exact ⟨rfl, rfl⟩
set_option maxRecDepth 100000 in
set_option maxHeartbeats 400000 in
theorem clone8_nil (w : World) : Calls Try.prog 61 #[.slice none 0 0] w fun e w' => e = .returned (.slice none 0 0) ∧ w = w' := by
  have hz := fun (w : World) (a : Option Addr) (n c : Nat) => Lib.run_eql_slice_nil (P := Try.prog) w 44 5 a n c 0 0 Try.underlying44
  go_enter Try.func61, Try.ntmps61
  go_wp2
  go_ret
  exact ⟨rfl, rfl⟩
set_option maxRecDepth 100000 in
set_option maxHeartbeats 400000 in
theorem imown0_any (w : World) : Calls Try.prog 79 #[.slice none 0 0] w fun e w' => e = .returned (.slice none 0 0) ∧ w = w' := by
  have hsl : ∀ w, (Instr.sliceAt 44 (.slice none 0 0) none (some (.int .i64 0)) (some (.int .i64 0))).run Try.prog w = .ok (.slice none 0 0) w := fun w => by kernel_rfl
  go_enter Try.func79, Try.ntmps79
  go_wp2_with fail
  refine (clone8_nil w).mono ?_
  rintro e w1 ⟨rfl, rfl⟩
  go_wp2
  go_ret
  exact ⟨rfl, rfl⟩

def PutIs (w : World) (n : Nat) (e : Ending) (w' : World) : Prop := ∃ A c, e = .returned (.slice A 4 c) ∧ OwnS u8R w' w.heap.size 5 All (.slice A 4 c) (bytes4 n) ∧ Ext w w'
theorem bytes4_lt (n : Nat) : ∀ x ∈ bytes4 n, x < 256 := by
  intro x hx
  simp [bytes4] at hx
  omega
theorem take_bytes4 (n : Nat) : (bytes4 n).take 0 = [] ∧ (bytes4 n).take 1 = (bytes4 n).take 0 ++ [n % 256] ∧ (bytes4 n).take 2 = (bytes4 n).take 1 ++ [n / 256 % 256] ∧ (bytes4 n).take 3 = (bytes4 n).take 2 ++ [n / 65536 % 256] ∧ (bytes4 n).take 4 = (bytes4 n).take 3 ++ [n / 16777216 % 256] := ⟨rfl, rfl, rfl, rfl, rfl⟩

set_option maxRecDepth 100000 in
set_option maxHeartbeats 1000000 in
theorem put4_any (w : World) (n : Nat) (hn : n < 4294967296) : Calls Try.prog 64 #[.slice none 0 0, .int .u32 n, .int .i64 4] w (PutIs w n) := by
  obtain ⟨i0, hi, hz0, hz1, hz2⟩ := info_parts info_u8
  have HI := hid hi
  have HZ0 := hid hz0
  have HZ1 := hid hz1
  have HZ2 := hid hz2
  clear hi hz0 hz1 hz2
  go_enter Try.func64, Try.ntmps64
  go_wp2_with fail
  refine (imown0_any w).mono ?_
  rintro e w1 ⟨rfl, rfl⟩
  go_wp2_with fail
  refine (valid4_any w).mono ?_
  rintro e w1 ⟨rfl, rfl⟩
  go_wp2
  go_loopw [7, 16] (fun v i wr => ∃ (k : Nat) (A' : Option Addr) (c' : Nat), k ≤ 4 ∧ i = .int .i64 k ∧ v = .slice A' k c' ∧ Hid (OwnS u8R wr w.heap.size 5 All (.slice A' k c') ((bytes4 n).take k)) ∧ Hid (Ext w wr)) (fun _ i _ => 4 - (intOf i).toNat)
  case atStart => exact ⟨0, none, 0, by omega, rfl, rfl, hid OwnS.nil, hid (Ext.refl _)⟩
  case round =>
    obtain ⟨k, A', c', hk, rfl, rfl, HO, HX⟩ := hrel
    by_cases h1 : k < 4
    · obtain rfl | rfl | rfl | rfl : k = 0 ∨ k = 1 ∨ k = 2 ∨ k = 3 := by omega
      ·
        obtain ⟨x, hx⟩ : ∃ x : Nat, n % 256 = x := ⟨_, rfl⟩
        have ex : (n : Int) % 256 = (x : Int) := by omega
        have hxl : x < 256 := by omega
        obtain ⟨L, hL⟩ : ∃ L, (bytes4 n).take 0 = L := ⟨_, rfl⟩
        have hLL : L.length = 0 := by rw [← hL]; rfl
        rw [hL] at HO
        have HXV := hid hx
        have HLV := hid hL
        have HLL := hid hLL
        clear hx hL hLL
        go_wp2_with (first
          | (at_builtin; refine wpList_app1s rfl (.tmp 19) (.tmp 25) 44 rfl w.heap.size 5 i0 _ 1 1 Try.underlying44 HI.out HZ0.out HZ1.out HZ2.out rfl u8R rfl (.slice A' 0 c') L rfl HO.out wr.heap.size rfl x rfl ⟨rfl, hxl⟩ (by have := HLL.out; omega) (by have := HLL.out; omega) (by exact HX.out.size) ?_; intro A5 c5 w5 hown5 hg5; have HO5 := hid hown5; have HX5 := hid ((HX.out.alloc _).grown hg5 (fun k hk => (HO.out.block _ hk).1)); clear hown5 hg5)
          | fail)
        first
          | go_roundw
          | refine ⟨?rel, ?measure⟩
        case rel => exact ⟨0 + 1, A5, c5, by omega, by first | rfl | go_num, by rw [HLL.out], hid (by have := HO5.out; rw [HLL.out, ← HLV.out, ← HXV.out] at this; exact this), HX5⟩
        case measure => simp [intOf]
      ·
        obtain ⟨x, hx⟩ : ∃ x : Nat, n / 256 % 256 = x := ⟨_, rfl⟩
        have ex : (n : Int) / 256 % 256 = (x : Int) := by omega
        have hxl : x < 256 := by omega
        obtain ⟨L, hL⟩ : ∃ L, (bytes4 n).take 1 = L := ⟨_, rfl⟩
        have hLL : L.length = 1 := by rw [← hL]; rfl
        rw [hL] at HO
        have HXV := hid hx
        have HLV := hid hL
        have HLL := hid hLL
        clear hx hL hLL
        go_wp2_with (first
          | (at_builtin; refine wpList_app1s rfl (.tmp 19) (.tmp 25) 44 rfl w.heap.size 5 i0 _ 1 1 Try.underlying44 HI.out HZ0.out HZ1.out HZ2.out rfl u8R rfl (.slice A' 1 c') L rfl HO.out wr.heap.size rfl x rfl ⟨rfl, hxl⟩ (by have := HLL.out; omega) (by have := HLL.out; omega) (by exact HX.out.size) ?_; intro A5 c5 w5 hown5 hg5; have HO5 := hid hown5; have HX5 := hid ((HX.out.alloc _).grown hg5 (fun k hk => (HO.out.block _ hk).1)); clear hown5 hg5)
          | fail)
        first
          | go_roundw
          | refine ⟨?rel, ?measure⟩
        case rel => exact ⟨1 + 1, A5, c5, by omega, by first | rfl | go_num, by rw [HLL.out], hid (by have := HO5.out; rw [HLL.out, ← HLV.out, ← HXV.out] at this; exact this), HX5⟩
        case measure => simp [intOf]
      ·
        obtain ⟨x, hx⟩ : ∃ x : Nat, n / 65536 % 256 = x := ⟨_, rfl⟩
        have ex : (n : Int) / 65536 % 256 = (x : Int) := by omega
        have hxl : x < 256 := by omega
        obtain ⟨L, hL⟩ : ∃ L, (bytes4 n).take 2 = L := ⟨_, rfl⟩
        have hLL : L.length = 2 := by rw [← hL]; rfl
        rw [hL] at HO
        have HXV := hid hx
        have HLV := hid hL
        have HLL := hid hLL
        clear hx hL hLL
        go_wp2_with (first
          | (at_builtin; refine wpList_app1s rfl (.tmp 19) (.tmp 25) 44 rfl w.heap.size 5 i0 _ 1 1 Try.underlying44 HI.out HZ0.out HZ1.out HZ2.out rfl u8R rfl (.slice A' 2 c') L rfl HO.out wr.heap.size rfl x rfl ⟨rfl, hxl⟩ (by have := HLL.out; omega) (by have := HLL.out; omega) (by exact HX.out.size) ?_; intro A5 c5 w5 hown5 hg5; have HO5 := hid hown5; have HX5 := hid ((HX.out.alloc _).grown hg5 (fun k hk => (HO.out.block _ hk).1)); clear hown5 hg5)
          | fail)
        first
          | go_roundw
          | refine ⟨?rel, ?measure⟩
        case rel => exact ⟨2 + 1, A5, c5, by omega, by first | rfl | go_num, by rw [HLL.out], hid (by have := HO5.out; rw [HLL.out, ← HLV.out, ← HXV.out] at this; exact this), HX5⟩
        case measure => simp [intOf]
      ·
        obtain ⟨x, hx⟩ : ∃ x : Nat, n / 16777216 % 256 = x := ⟨_, rfl⟩
        have ex : (n : Int) / 16777216 = (x : Int) := by omega
        have hxl : x < 256 := by omega
        obtain ⟨L, hL⟩ : ∃ L, (bytes4 n).take 3 = L := ⟨_, rfl⟩
        have hLL : L.length = 3 := by rw [← hL]; rfl
        rw [hL] at HO
        have HXV := hid hx
        have HLV := hid hL
        have HLL := hid hLL
        clear hx hL hLL
        go_wp2_with (first
          | (at_builtin; refine wpList_app1s rfl (.tmp 19) (.tmp 25) 44 rfl w.heap.size 5 i0 _ 1 1 Try.underlying44 HI.out HZ0.out HZ1.out HZ2.out rfl u8R rfl (.slice A' 3 c') L rfl HO.out wr.heap.size rfl x rfl ⟨rfl, hxl⟩ (by have := HLL.out; omega) (by have := HLL.out; omega) (by exact HX.out.size) ?_; intro A5 c5 w5 hown5 hg5; have HO5 := hid hown5; have HX5 := hid ((HX.out.alloc _).grown hg5 (fun k hk => (HO.out.block _ hk).1)); clear hown5 hg5)
          | fail)
        first
          | go_roundw
          | refine ⟨?rel, ?measure⟩
        case rel => exact ⟨3 + 1, A5, c5, by omega, by first | rfl | go_num, by rw [HLL.out], hid (by have := HO5.out; rw [HLL.out, ← HLV.out, ← HXV.out] at this; exact this), HX5⟩
        case measure => simp [intOf]
    · obtain rfl : k = 4 := by omega
      have HO4 : Hid (OwnS u8R wr w.heap.size 5 All (.slice A' 4 c') (bytes4 n)) := HO
      go_wp2
      go_ret
      exact ⟨A', c', rfl, HO4.out, HX.out⟩
end Go.Proofs.Ytnlofhbimfcejaa
