/- decompilerref31.decimal. -/
import Derived.Test.YtacmjhcfjhpkeaaGreatDoorTxpm
import Derived.Test.YtacmjhcfjhpkeaaGreatDoorPlbm
import Derived.Test.YtacmjhcfjhpkeaaGreatDoorTyAm
namespace Go.Proofs.YtacmjhcfjhpkeaaGreatDoor
open Go.RowKit Go.Deco
set_option linter.unusedSimpArgs false
set_option linter.unusedVariables false

def StrIs (w : World) (l : List Nat) (e : Ending) (w' : World) : Prop := e = .returned (.string (strOf l)) ∧ Ext w w'
theorem strOf_app (a b : List Nat) : strOf a ++ strOf b = strOf (a ++ b) := by
 apply ByteArray.ext
 simp [strOf]
theorem strOf_size (l : List Nat) : (strOf l).size = l.length := by simp [strOf, ByteArray.size]
theorem own_byte {t : TypeId} (w : World) (x : Nat) (hx : x < 256) : Sl u8R (w.alloc (.cells #[.int .u8 x] t)) All (.slice (some ⟨w.heap.size, 0, none⟩) 1 1) [x] := by
 have h : OwnS u8R (w.alloc (.cells #[.int .u8 x] t)) w.heap.size t All (.slice (some ⟨w.heap.size, 0, none⟩) 1 1) [x] :=
  ⟨[.int .u8 x], World.ownsRow_lit (size := 1) (e := t) w #[.int .u8 x] 1 (Nat.le_refl _) (by simp [maxLen]) (by simp), chunks_num.2 ⟨rfl, by simpa using hx⟩⟩
 exact h.sl
set_option maxRecDepth 100000 in
set_option maxHeartbeats 400000 in
theorem decimal_any (w : World) (n : Nat) (hn : n < 2147483648) : Calls Tryz.prog 98 #[.int .i64 n] w (StrIs w (decN n)) := by
 obtain ⟨R, hR⟩ : ∃ R, decN n = R := ⟨_, rfl⟩
 rw [hR]
 have HR := hid hR
 clear hR
 go_enter Tryz.func98, Tryz.ntmps98
 go_wp2
 go_loopw [0, 3] (fun s0 s3 wr => ∃ (x f : Nat) (D : List Nat), s0 = .int .i64 x ∧ s3 = .string (strOf D) ∧ x < 2147483648 ∧ f + D.length = 20 ∧ Hid (x < 10 ^ (f + 1)) ∧ Hid (decF f x ++ D = R) ∧ Hid (Ext w wr)) (fun s0 _ _ => (intOf s0).toNat)
 case atStart => exact ⟨n, 20, [], rfl, rfl, hn, rfl, hid (Nat.lt_of_lt_of_le hn (by decide)), hid (by rw [List.append_nil]; exact HR.out), hid (Ext.refl _)⟩
 case round =>
  obtain ⟨x, f, D, rfl, rfl, hx, hfD, HF, HN, HX⟩ := hrel
  by_cases h : 10 ≤ x
  ·obtain ⟨g, hg, hN, hxg⟩ := decF_more h HF.out
   obtain ⟨d, hd⟩ : ∃ d, x % 10 = d := ⟨_, rfl⟩
   obtain ⟨y, hy⟩ : ∃ y, x / 10 = y := ⟨_, rfl⟩
   have hd10 : d < 10 := by omega
   have hm : (x : Int).tmod 10 = (d : Int) := by rw [Int.tmod_eq_emod_of_nonneg (by omega)]; omega
   have hq : (x : Int).tdiv 10 = (y : Int) := by rw [Int.tdiv_eq_ediv_of_nonneg (by omega)]; omega
   obtain ⟨ch, hch⟩ : ∃ ch, 48 + d = ch := ⟨_, rfl⟩
   have w1 : IntKind.i64.wrap (48 + (d : Int)) = (ch : Int) := by rw [IntWalk.i64_in _ (by omega)]; omega
   have w2 : IntKind.u8.wrap (ch : Int) = (ch : Int) := IntWalk.u8_in _ (by omega)
   have hge : decide ((x : Int) ≥ 10) = true := decide_eq_true (by omega)
   have hge2 : (x : Int) ≥ 10 := by omega
   obtain ⟨W1, hW1⟩ : ∃ W1, wr.alloc (.cells #[.int .u8 ch] 5) = W1 := ⟨_, rfl⟩
   have hsl : Sl u8R W1 All (.slice (some ⟨wr.heap.size, 0, none⟩) 1 1) [ch] := by rw [← hW1]; exact own_byte wr ch (by omega)
   have hcv := run_str (P := Tryz.prog) 62 9 5 Tryz.underlying62 Tryz.underlying5 Tryz.underlying9 hsl
   have hz1 : (strOf [ch]).size = 1 := strOf_size _
   have hz2 : (strOf D).size ≤ 20 := by rw [strOf_size]; omega
   have hz3 : ¬ (strOf [ch]).size + (strOf D).size > 9223372036854775807 := by omega
   have HNN := hid hN
   have HXG := hid hxg
   have HG := hid hg
   have HDD := hid hd
   have HYY := hid hy
   have HCH := hid hch
   have HX1 := hid (show Ext w W1 by rw [← hW1]; exact HX.out.alloc _)
   have HYX := hid (show y < x by omega)
   have hyx : y < 2147483648 := by omega
   clear hN hxg hg hd hy hch hsl
   go_wp2
   first
    | go_roundw
    | refine ⟨?rel, ?measure⟩
   case rel =>
    refine ⟨y, g, ch :: D, rfl, by rw [strOf_app]; rfl, hyx, by have := HG.out; simp; omega, hid (by rw [← HYY.out]; exact HXG.out), hid ?_, HX1⟩
    have h1 := HN.out
    rw [HNN.out, HYY.out, HDD.out, HCH.out] at h1
    simpa using h1
   case measure => simp [intOf]; exact HYX.out
  ·have hge : decide ((x : Int) ≥ 10) = false := decide_eq_false (by omega)
   have hge2 : ¬ (x : Int) ≥ 10 := by omega
   obtain ⟨ch, hch⟩ : ∃ ch, 48 + x = ch := ⟨_, rfl⟩
   have w1 : IntKind.i64.wrap (48 + (x : Int)) = (ch : Int) := by rw [IntWalk.i64_in _ (by omega)]; omega
   have w2 : IntKind.u8.wrap (ch : Int) = (ch : Int) := IntWalk.u8_in _ (by omega)
   obtain ⟨W1, hW1⟩ : ∃ W1, wr.alloc (.cells #[.int .u8 ch] 5) = W1 := ⟨_, rfl⟩
   have hsl : Sl u8R W1 All (.slice (some ⟨wr.heap.size, 0, none⟩) 1 1) [ch] := by rw [← hW1]; exact own_byte wr ch (by omega)
   have hcv := run_str (P := Tryz.prog) 62 9 5 Tryz.underlying62 Tryz.underlying5 Tryz.underlying9 hsl
   have hz1 : (strOf [ch]).size = 1 := strOf_size _
   have hz2 : (strOf D).size ≤ 20 := by rw [strOf_size]; omega
   have hz3 : ¬ (strOf [ch]).size + (strOf D).size > 9223372036854775807 := by omega
   have HCH := hid hch
   have HX1 := hid (show Ext w W1 by rw [← hW1]; exact HX.out.alloc _)
   have HXL := hid (show x < 10 by omega)
   clear hch hsl
   go_wp2
   go_ret
   refine ⟨?_, HX1.out⟩
   have h1 := HN.out
   rw [decF_one HXL.out, HCH.out] at h1
   rw [← h1, ← strOf_app]
   rfl
end Go.Proofs.YtacmjhcfjhpkeaaGreatDoor
