/- Numbers in hexadecimal: strconv's digits at base 16, symbol.hexadecimal. -/
import Derived.Test.YtacmjhcfjhpkeaaGreatDoorRows
import Derived.Test.YtacmjhcfjhpkeaaGreatDoorPlam
import Derived.Test.YtacmjhcfjhpkeaaGreatDoorPlbm
import Derived.Lib.Hide
import Derived.Laws.BitsAllLaws
namespace Go.Proofs.YtacmjhcfjhpkeaaGreatDoor
open Go.RowKit Go.Deco
set_option linter.unusedSimpArgs false
set_option linter.unusedVariables false

/-- The one entry of the library's table that base 16 reads. -/
def TabAt (w : World) : Prop := w.cell? ⟨3, 15, none⟩ = some (.int .u8 4)
theorem TabAt.ext {w w' : World} (h : TabAt w) (he : Ext w w') : TabAt w' := he.cell h

set_option maxRecDepth 100000 in
set_option maxHeartbeats 400000 in
theorem tz64_any (w : World) (ht : TabAt w) : Calls Tryz.prog 146 #[.int .u64 16] w fun e w' => e = .returned (.int .i64 4) ∧ w = w' := by
 unfold TabAt at ht
 have e1 : IntKind.u64.wrap (bits BinOp.and IntKind.u64 16 (IntKind.u64.wrap (-16)) * 285870213051353865) / 288230376151711744 = 15 := by decide +kernel
 go_enter Tryz.func146, Tryz.ntmps146
 go_wp2
 go_ret
 exact ⟨rfl, rfl⟩
set_option maxRecDepth 100000 in
set_option maxHeartbeats 400000 in
theorem tz_any (w : World) (ht : TabAt w) : Calls Tryz.prog 134 #[.int .u64 16] w fun e w' => e = .returned (.int .i64 4) ∧ w = w' := by
 go_enter Tryz.func134, Tryz.ntmps134
 go_wp2_with (go_at_call 146; refine (tz64_any _ ht).mono ?_; rintro e w' ⟨rfl, rfl⟩)
 go_ret
 exact ⟨rfl, rfl⟩
set_option maxRecDepth 100000 in
set_option maxHeartbeats 400000 in
theorem p2_any (w : World) : Calls Tryz.prog 133 #[.int .i64 16] w fun e w' => e = .returned (.bool true) ∧ w = w' := by
 go_enter Tryz.func133, Tryz.ntmps133
 go_wp2
 go_ret
 exact ⟨rfl, rfl⟩

/-- A digit of base 16. -/
def hexc (d : Nat) : Nat := if d < 10 then 48 + d else 87 + d
theorem hexc_lt {d : Nat} (h : d < 16) : hexc d < 256 := by unfold hexc; split <;> omega
def hexN : Nat → Nat → List Nat
 | 0, n => [hexc (n % 16)]
 | f + 1, n => if n < 16 then [hexc n] else hexN f (n / 16) ++ [hexc (n % 16)]
/-- The digits of a number below 2^32. -/
def hexD (n : Nat) : List Nat := hexN 8 n
theorem hexN_one {f u : Nat} (h : u < 16) : hexN f u = [hexc u] := by
 cases f with
 | zero => rw [hexN, Nat.mod_eq_of_lt h]
 | succ f => rw [hexN, if_pos h]
theorem hexN_more {f u : Nat} (h : 16 ≤ u) (hu : u < 16 ^ f) : ∃ g, f = g + 1 ∧ hexN f u = hexN g (u / 16) ++ [hexc (u % 16)] ∧ u / 16 < 16 ^ g := by
 cases f with
 | zero => simp at hu; omega
 | succ g => exact ⟨g, rfl, by rw [hexN, if_neg (by omega)], by rw [Nat.pow_succ] at hu; omega⟩
theorem own_lit {t : TypeId} (w : World) (zs : Array Value) (l : List Nat) (hz : zs.toList = l.map (fun x : Nat => Value.int .u8 x)) (hl : ∀ x ∈ l, x < 256) (hm : l.length ≤ maxLen) :
  OwnS u8R (w.alloc (.cells zs t)) w.heap.size t All (.slice (some ⟨w.heap.size, 0, none⟩) l.length l.length) l := by
 have hs : zs.size = l.length := by rw [← Array.length_toList, hz, List.length_map]
 refine ⟨zs.toList, ⟨?_, .inr ⟨w.heap.size, l.length, zs, rfl, Nat.le_refl _, heap_alloc_new w _, Nat.le_refl _, hm, by rw [hs]; simp [numR], ?_⟩⟩, chunks_num.2 ⟨hz, hl⟩⟩
 ·simp [hs, numR]
 ·rw [← hs]
  exact List.take_of_length_le (by simp [numR])
theorem zero65 : Tryz.zeroCells147.toList = (List.replicate 65 0).map (fun x : Nat => Value.int .u8 x) := by kernel_rfl
theorem dig_run (d : Nat) (hd : d < 16) : ∀ w, (Instr.index 9 (.string { data := #[48, 49, 50, 51, 52, 53, 54, 55, 56, 57, 97, 98, 99, 100, 101, 102, 103, 104, 105, 106, 107, 108, 109, 110, 111, 112, 113, 114, 115, 116, 117, 118, 119, 120, 121, 122] }) (.int .u64 d)).run Tryz.prog w = .ok (.int .u8 (hexc d)) w := by
 intro w
 obtain rfl | rfl | rfl | rfl | rfl | rfl | rfl | rfl | rfl | rfl | rfl | rfl | rfl | rfl | rfl | rfl : d = 0 ∨ d = 1 ∨ d = 2 ∨ d = 3 ∨ d = 4 ∨ d = 5 ∨ d = 6 ∨ d = 7 ∨ d = 8 ∨ d = 9 ∨ d = 10 ∨ d = 11 ∨ d = 12 ∨ d = 13 ∨ d = 14 ∨ d = 15 := by omega
 all_goals kernel_rfl
theorem set_rep (j x : Nat) (D : List Nat) : (List.replicate (j + 1) 0 ++ D).set j x = List.replicate j 0 ++ x :: D := by
 rw [List.replicate_succ', List.append_assoc, List.set_append_right _ _ (by simp)]
 simp
theorem add_none0 (b off k : Nat) : (⟨b, off, none⟩ : Addr).add k = ⟨b, off + k, none⟩ := by
 unfold Addr.add
 split
 ·subst_vars; rfl
 ·rfl
theorem sl65 (g j : Nat) (hj : j < 65) (w : World) : (Instr.sliceAt 147 (.pointer (some ⟨g, 0, none⟩)) (some (.int .i64 j)) none none).run Tryz.prog w = .ok (.slice (some ⟨g, j, none⟩) (65 - j) (65 - j)) w := by
 have h1 : Tryz.prog.arrayLen 147 = 65 := by kernel_rfl
 have h2 : (sizeOf (Tryz.prog.elem 147)).run Tryz.prog w = .ok 1 w := by kernel_rfl
 rw [run_sliceAt_array_l w 147 ⟨g, 0, none⟩ (by kernel_rfl) .i64 j (by omega) (by rw [h1]; omega), h2, h1]
 simp [slicedAt, add_none0, show ¬ 65 = j by omega]

set_option maxRecDepth 100000 in
set_option maxHeartbeats 400000 in
theorem bits_any (w : World) (ht : TabAt w) (n : Nat) (hn : n < 4294967296) :
  Calls Tryz.prog 104 #[.slice none 0 0, .int .u64 n, .int .i64 16, .bool false, .bool false] w fun e w' => e = .returned (.tuple #[.slice none 0 0, .string (strOf (hexD n))]) ∧ Ext w w' := by
 obtain ⟨L, hL⟩ : ∃ L, hexD n = L := ⟨_, rfl⟩
 rw [hL]
 have HL := hid hL
 have ho := own_lit (t := 147) w Tryz.zeroCells147 (List.replicate 65 0) zero65 (by simp) (by simp [maxLen])
 rw [List.length_replicate] at ho
 obtain ⟨W0, hW0⟩ : ∃ W0, w.alloc (.cells Tryz.zeroCells147 147) = W0 := ⟨_, rfl⟩
 rw [hW0] at ho
 have hE0 : Ext w W0 := by rw [← hW0]; exact (Ext.refl w).alloc _
 have ht0 := ht.ext hE0
 have HE0 := hid hE0
 have HO := hid ho
 clear hL ho hE0
 go_enter Tryz.func104, Tryz.ntmps104
 go_wp2_with fail
 refine (p2_any _).mono ?_
 rintro e w' ⟨rfl, rfl⟩
 go_wp2_with fail
 refine (tz_any _ ht0).mono ?_
 rintro e w' ⟨rfl, rfl⟩
 clear hW0
 go_wp2
 go_loopw [13, 1] (fun i u wr => ∃ (j x f : Nat) (D : List Nat), i = .int .i64 ((j : Int) + 1) ∧ u = .int .u64 x ∧ j + 1 + D.length = 65 ∧ x < 4294967296 ∧ f + D.length = 8 ∧ Hid (x < 16 ^ f) ∧ Hid (hexN f x ++ D = L) ∧ Hid (Ext w wr) ∧ Hid (OwnS u8R wr w.heap.size 147 All (.slice (some ⟨w.heap.size, 0, none⟩) 65 65) (List.replicate (j + 1) 0 ++ D))) (fun i _ _ => (intOf i).toNat)
 case atStart => exact ⟨64, n, 8, [], rfl, rfl, rfl, hn, rfl, hid (by simpa using hn), hid (by rw [List.append_nil]; exact HL.out), HE0, hid (by simpa using HO.out)⟩
 case round =>
  obtain ⟨j, x, f, D, rfl, rfl, hjD, hx, hfD, HF, HN, HX, HO2⟩ := hrel
  by_cases h : 16 ≤ x
  ·obtain ⟨g, hg, hN, hxg⟩ := hexN_more h HF.out
   obtain ⟨d, hd⟩ : ∃ d, x % 16 = d := ⟨_, rfl⟩
   have hb : bits BinOp.and IntKind.u64 (↑x) 15 = (d : Int) := by
    have := u64_and_nat x 15 (by omega) (by omega)
    rw [show x &&& 15 = x % 16 from Nat.and_two_pow_sub_one_eq_mod x 4, hd] at this
    exact this
   have hdl : d < 16 := by omega
   have hdr := dig_run d hdl
   have hk : (List.replicate (j + 1) 0 ++ D)[j]? = some 0 := by rw [List.getElem?_append_left (by simp)]; simp
   obtain ⟨c0, f0⟩ := HO2.out.num_cell hk
   have HS := hid (HO2.out.num_set (hexc_lt hdl) j)
   rw [hd] at hN
   have HN2 := hid hN
   have HXG := hid hxg
   have HG := hid hg
   clear hN hxg hg hk hd
   go_wp2
   go_roundw
   case rel =>
    have hg := HG.out
    obtain ⟨j, rfl⟩ : ∃ i, j = i + 1 := ⟨j - 1, by omega⟩
    refine ⟨j, x / 16, g, hexc d :: D, by first | rfl | simp, by first | rfl | go_num, by simp; omega, by omega, by simp; omega, HXG, hid ?_, hid (HX.out.setCell (Nat.le_refl _) _), hid ?_⟩
    ·have := HN.out
     rw [HN2.out] at this
     simpa using this
    ·have := HS.out
     rw [set_rep] at this
     exact this
   case measure => simp [intOf]
  ·have hdl : x < 16 := by omega
   have hdr := dig_run x hdl
   have hk : (List.replicate (j + 1) 0 ++ D)[j]? = some 0 := by rw [List.getElem?_append_left (by simp)]; simp
   obtain ⟨c0, f0⟩ := HO2.out.num_cell hk
   have ho := HO2.out.num_set (hexc_lt hdl) j
   rw [set_rep] at ho
   have hsl := sl65 w.heap.size j (by omega)
   have hsub := Sl.sub (R := u8R) (b := w.heap.size) (off := 0) (i := j) (j := 65) ho.sl (by omega) (Nat.le_refl _)
   have hcv := run_str (P := Tryz.prog) 62 9 5 Tryz.underlying62 Tryz.underlying5 Tryz.underlying9 hsub
   have el : ((List.replicate j 0 ++ hexc x :: D).drop j).take (65 - j) = L := by
    rw [List.drop_left' (by simp), List.take_of_length_le (by simp; omega), ← HN.out, hexN_one hdl]
    rfl
   rw [el, show 0 + j * u8R.size = j by simp [numR]] at hcv
   have HXX := hid (HX.out.setCell (p := ⟨w.heap.size, j, none⟩) (Nat.le_refl _) (.int .u8 (hexc x)))
   clear hk ho hsub el
   go_wp2
   go_ret2
   exact ⟨rfl, HXX.out⟩

set_option maxRecDepth 100000 in
set_option maxHeartbeats 400000 in
theorem ifu_any (w : World) (ht : TabAt w) (n : Nat) (hn : n < 4294967296) :
  Calls Tryz.prog 68 #[.int .u64 n, .int .i64 16] w fun e w' => e = .returned (.string (strOf (hexD n))) ∧ Ext w w' := by
 go_enter Tryz.func68, Tryz.ntmps68
 go_wp2_with fail
 refine (bits_any w ht n hn).mono ?_
 rintro e w' ⟨rfl, hx⟩
 go_wp2
 go_ret
 exact ⟨rfl, hx⟩
set_option maxRecDepth 100000 in
set_option maxHeartbeats 400000 in
theorem sfu_any (w : World) (ht : TabAt w) (n : Nat) (hn : n < 4294967296) :
  Calls Tryz.prog 35 #[.int .u64 n, .int .i64 16] w fun e w' => e = .returned (.string (strOf (hexD n))) ∧ Ext w w' := by
 go_enter Tryz.func35, Tryz.ntmps35
 go_wp2_with fail
 refine (ifu_any w ht n hn).mono ?_
 rintro e w' ⟨rfl, hx⟩
 go_wp2
 go_ret
 exact ⟨rfl, hx⟩
/-- A number in hexadecimal. -/
def hexS (n : Nat) : ByteArray := strOf (48 :: 120 :: hexD n)
end Go.Proofs.YtacmjhcfjhpkeaaGreatDoor
