/- structs.Name. -/
import Derived.Test.YtacmjhcfjhpkeaaGreatDoorPrxm
import Derived.Test.YtacmjhcfjhpkeaaGreatDoorHexm
import Derived.Test.YtacmjhcfjhpkeaaGreatDoorTxbm
import Derived.Lib.ConvBytes
namespace Go.Proofs.YtacmjhcfjhpkeaaGreatDoor
open Go.RowKit Go.Deco
set_option linter.unusedSimpArgs false
set_option linter.unusedVariables false
theorem low_hex : ∀ (k f n : Nat), n < 16 ^ (k + 1) → k ≤ f → (hexN f n).length ≤ k + 1 ∧ List.replicate (k + 1 - (hexN f n).length) 48 ++ hexN f n = lowD (k + 1) n
 | k, f, n, hn, hk => by
  by_cases h : n < 16
  ·rw [hexN_one h, lowD, show n / 16 = 0 by omega, lowD_zero, Nat.mod_eq_of_lt h]
   exact ⟨by simp, rfl⟩
  ·match k, f, hk with
   | 0, f, _ => simp at hn; omega
   | k + 1, f + 1, hk =>
    have h2 : n / 16 < 16 ^ (k + 1) := by rw [Nat.div_lt_iff_lt_mul (by decide)]; rw [Nat.pow_succ] at hn; exact hn
    obtain ⟨h3, h4⟩ := low_hex k f (n / 16) h2 (by omega)
    have e : hexN (f + 1) n = hexN f (n / 16) ++ [hexc (n % 16)] := by rw [hexN, if_neg h]
    rw [e, List.length_append]
    refine ⟨by simp; omega, ?_⟩
    rw [show k + 1 + 1 - ((hexN f (n / 16)).length + [hexc (n % 16)].length) = k + 1 - (hexN f (n / 16)).length by simp, ← List.append_assoc, h4]
    rfl
theorem low_hexD (n : Nat) (hn : n < 4294967296) : (hexD n).length ≤ 8 ∧ List.replicate (8 - (hexD n).length) 48 ++ hexD n = lowD 8 n := low_hex 7 8 n (by simpa using hn) (by omega)
theorem str_isEmpty_nil : (strOf []).toList.isEmpty = true := by
 rw [← decide_eq_emptyBytes]; rfl
theorem str_isEmpty_false {L : List Nat} (h : L ≠ []) : (strOf L).toList.isEmpty = false := by
 rw [← decide_eq_emptyBytes, decide_eq_false]
 intro e
 have := congrArg ByteArray.size e
 rw [strOf_size] at this
 exact h (List.length_eq_zero_iff.1 this)
theorem bytes_ext (w : World) (e : TypeId) (s : ByteArray) : Ext w (Lib.bytesWorld w e s) := by
 refine ⟨?_, ?_, ?_, by rw [Lib.bytesWorld_size]; omega, fun k hk => Lib.bytesWorld_at_old w e s k hk⟩
 all_goals
  unfold Lib.bytesWorld World.freeze
  split <;> rfl
theorem bytes_at (w : World) (e : TypeId) {L : List Nat} {k x : Nat} (hk : L[k]? = some x) (hx : x < 256) : (Lib.bytesWorld w e (strOf L)).cell? ⟨w.heap.size, k, none⟩ = some (.int .u8 x) := by
 have hl := (List.getElem?_eq_some_iff.1 hk).1
 rw [Lib.bytesWorld_cell w e _ k (by rw [strOf_size]; exact hl)]
 have e1 : (strOf L).data.toList.getD k 0 = UInt8.ofNat x := by simp [strOf, List.getD, hk]
 rw [e1]
 simp
 omega
set_option maxRecDepth 100000 in
set_option maxHeartbeats 4000000 in
theorem sname_any (d : Nat) (w : World) (t : Ty) (v : Value) (hv : TyV d w All v t) (hn : nodT t ≤ 1000000) (ht : Tab10 w) (hg : TabAt w) : Calls Tryz.prog 14 #[v] w (StrIs w (nameT t)) := by
 have HV := hid hv
 obtain ⟨A, na, ca, B, nb, cb, rfl, -⟩ := hv
 obtain ⟨W0, hW0⟩ : ∃ W0, w.alloc (.cells #[.int .i64 t.kind, .int .i64 t.size, .int .i64 t.count, .slice A na ca, .slice B nb cb] 25) = W0 := ⟨_, rfl⟩
 have hE0 : Ext w W0 := by rw [← hW0]; exact (Ext.refl w).alloc _
 have o0 : W0.cell? ⟨w.heap.size, 0, none⟩ = some (.int .i64 t.kind) := by rw [← hW0]; simp [go_sem]
 have o1 : W0.cell? ⟨w.heap.size, 1, none⟩ = some (.int .i64 t.size) := by rw [← hW0]; simp [go_sem]
 have o2 : W0.cell? ⟨w.heap.size, 2, none⟩ = some (.int .i64 t.count) := by rw [← hW0]; simp [go_sem]
 have o3 : W0.cell? ⟨w.heap.size, 3, none⟩ = some (.slice A na ca) := by rw [← hW0]; simp [go_sem]
 have o4 : W0.cell? ⟨w.heap.size, 4, none⟩ = some (.slice B nb cb) := by rw [← hW0]; simp [go_sem]
 have HE0 := hid hE0
 clear hE0
 have HC := hid (print_any d W0 t _ (HV.out.ext HE0.out) hn (ht.ext HE0.out))
 obtain ⟨R, hR⟩ : ∃ R, nameT t = R := ⟨_, rfl⟩
 obtain ⟨L, hL⟩ : ∃ L, printT t = L := ⟨_, rfl⟩
 rw [hL] at HC
 rw [hR]
 have HR := hid hR
 have HL := hid hL
 have HN := hid hn
 have HG := hid (hg.ext HE0.out)
 clear hR hL hn ht hg
 go_enter Tryz.func14, Tryz.ntmps14
 go_wp2_with fail
 refine (HC.out).mono ?_
 rintro e w1 ⟨rfl, hx1⟩
 have HX1 := hid (HE0.out.trans hx1)
 have HG1 := hid (HG.out.ext hx1)
 have o0 := hx1.cell o0
 have o1 := hx1.cell o1
 have o2 := hx1.cell o2
 have o3 := hx1.cell o3
 have o4 := hx1.cell o4
 clear hx1 hW0
 by_cases hg : goodT t = true
 case neg =>
  obtain rfl : L = [] := by rw [← HL.out, printT, if_neg hg]
  obtain rfl : R = [] := by rw [← HR.out, nameT, if_neg hg]
  clear hg
  have hne := str_isEmpty_nil
  go_wp2
  go_ret
  exact ⟨rfl, HX1.out⟩
 have HRR : Hid (preT t ++ lowD 8 (fnvL L) = R) := hid (by rw [← HR.out, nameT, if_pos hg, ← HL.out, printT, if_pos hg])
 have HLT : Hid (∀ x ∈ L, x < 256) := hid (by rw [← HL.out, printT, if_pos hg]; exact txt_lt t)
 have hne : (strOf L).toList.isEmpty = false := by
  have h1 : L ≠ [] := by rw [← HL.out, printT, if_pos hg]; exact txt_ne t
  exact str_isEmpty_false h1
 obtain ⟨n, hn⟩ : ∃ n, L.length = n := ⟨_, rfl⟩
 have hnb : n ≤ 64000000 := by rw [← hn, ← HL.out, printT, if_pos hg]; have := txt_len t; have := HN.out; omega
 have hzz : (strOf L).size = n := by rw [strOf_size, hn]
 have HLN := hid hn
 clear hn hg
 go_upto_region 5 with fail
 have HCV := fun W => Lib.run_convert_string_bytes (P := Tryz.prog) W 9 62 5 (strOf L) Tryz.underlying9 Tryz.underlying62 Tryz.underlying5
 go_upto_region 6 with fail
 clear HCV hne
 obtain ⟨cp, hcp⟩ : ∃ cp, grownCap w1 n 0 5 = cp := ⟨_, rfl⟩
 obtain ⟨W2, hW2⟩ : ∃ W2, Lib.bytesWorld w1 5 (strOf L) = W2 := ⟨_, rfl⟩
 rw [hcp, hW2]
 have HB := hid (fun (k x : Nat) (hk : L[k]? = some x) (hx : x < 256) => bytes_at w1 5 hk hx)
 have hx2 := bytes_ext w1 5 (strOf L)
 rw [hW2] at HB hx2
 have HX2 := hid (HX1.out.trans hx2)
 have HG2 := hid (HG1.out.ext hx2)
 have o0 := hx2.cell o0
 have HO0 := hid o0
 clear hcp hW2 hx2 o0 o1 o2 o3 o4
 go_loopw [16, 4] (fun i s4 wr => ∃ (k h : Nat), k ≤ n ∧ i = .int .i64 k ∧ s4 = .int .u32 h ∧ h < 4294967296 ∧ Hid (fnvL (L.take k) = h) ∧ W2 = wr) (fun i _ _ => n - (intOf i).toNat)
 case atStart => exact ⟨0, 2166136261, by omega, rfl, rfl, by omega, hid rfl, rfl⟩
 case round =>
  obtain ⟨k, h, hk, rfl, rfl, hh, HF, hwr⟩ := hrel
  obtain rfl := hwr
  by_cases h1 : k < n
  ·obtain ⟨x, hx⟩ : ∃ x, L[k]? = some x := ⟨_, List.getElem?_eq_getElem (by have := HLN.out; omega)⟩
   have hx256 := HLT.out x (List.mem_of_getElem? hx)
   have hat := HB.out k x hx hx256
   have hst := fnv_take hx
   rw [HF.out] at hst
   have hxor := u32_xor_nat h x hh (by omega)
   obtain ⟨y, hy⟩ : ∃ y, h ^^^ x = y := ⟨_, rfl⟩
   rw [hy] at hxor
   have hfs : fnvS h x = (y * 16777619) % 4294967296 := by rw [fnvS, hy]
   obtain ⟨g, hg⟩ : ∃ g, (y * 16777619) % 4294967296 = g := ⟨_, rfl⟩
   have hg2 : g < 4294967296 := by omega
   have hw : IntKind.u32.wrap ((y : Int) * 16777619) = (g : Int) := by rw [IntKind.wrap_u32]; omega
   have hw2 : ((y : Int) * 16777619) % 4294967296 = (g : Int) := by omega
   have HST : Hid (fnvL (L.take (k + 1)) = g) := hid (by rw [hst, hfs, hg])
   have hwx : IntKind.u32.wrap (x : Int) = (x : Int) := IntWalk.u32_in _ (by omega)
   have hkn : (k : Int) < (n : Int) := by omega
   clear hx hst hfs hg hy
   go_wp2
   first
    | go_roundw
    | refine ⟨?rel, ?measure⟩
   case rel => exact ⟨k + 1, g, by omega, by go_num, rfl, hg2, HST, trivial⟩
   case measure => simp [intOf]; omega
  ·have hkn : ¬ (k : Int) < (n : Int) := by omega
   obtain rfl : k = n := by omega
   have HFF : Hid (fnvL L = h) := hid (by have h1 := HF.out; rwa [List.take_of_length_le (by have := HLN.out; omega)] at h1)
   have o0 := HO0.out
   have HSF := hid (sfu_any W2 HG2.out h hh)
   obtain ⟨hl1, hl2⟩ := low_hexD h hh
   obtain ⟨D, hD⟩ : ∃ D, hexD h = D := ⟨_, rfl⟩
   rw [hD] at HSF hl1 hl2
   obtain ⟨m, hm⟩ : ∃ m, D.length = m := ⟨_, rfl⟩
   have hzd : (strOf D).size = m := by rw [strOf_size, hm]
   rw [hm] at hl1 hl2
   obtain ⟨j, hj⟩ : ∃ j, 8 - m = j := ⟨_, rfl⟩
   rw [hj] at hl2
   have hj1 : (8 : Int) - (m : Int) = (j : Int) := by omega
   have hj2 : IntKind.i64.wrap (j : Int) = (j : Int) := IntWalk.i64_in _ (by omega)
   have HRP := hid (fun W => rep_any W j (by omega))
   obtain ⟨Z, hZ⟩ : ∃ Z, List.replicate j 48 = Z := ⟨_, rfl⟩
   rw [hZ] at HRP hl2
   have hzz' : Z.length ≤ 8 := by rw [← hZ, List.length_replicate]; omega
   have HR9 : Hid (preT t ++ (Z ++ D) = R) := hid (by rw [hl2, ← HFF.out]; exact HRR.out)
   clear hD hm hj hZ hl2
   obtain ⟨kk, hkk⟩ : ∃ kk, t.kind = kk := ⟨_, rfl⟩
   have HKK := hid hkk
   rw [hkk] at o0
   clear hkk
   by_cases h5 : kk = 5
   ·subst h5
    have HP : Hid (preT t = [115, 95]) := hid (by rw [preT, if_pos HKK.out])
    rw [HP.out] at HR9
    have e1 : (⟨#[115, 95]⟩ : ByteArray) ++ strOf Z = strOf ([115, 95] ++ Z) := strOf_app [115, 95] _
    have z1 : ¬ 9223372036854775807 < 2 + (strOf Z).size := by rw [strOf_size]; omega
    obtain ⟨C1, hC1⟩ : ∃ C1, [115, 95] ++ Z = C1 := ⟨_, rfl⟩
    rw [hC1] at e1
    have e2 : strOf C1 ++ strOf D = strOf (C1 ++ D) := strOf_app _ _
    have z2 : ¬ 9223372036854775807 < (strOf C1).size + m := by rw [strOf_size, ← hC1]; simp; omega
    have HR8 : Hid (C1 ++ D = R) := hid (by rw [← hC1, List.append_assoc]; exact HR9.out)
    rw [HR8.out] at e2
    clear hC1 HB
    go_wp2_with fail
    refine (HSF.out).mono ?_
    rintro e w3 ⟨rfl, hx3⟩
    have HX3 := hid (HX2.out.trans hx3)
    clear hx3 o0
    go_wp2_with fail
    refine (HRP.out _).mono ?_
    rintro e w4 ⟨rfl, hx4⟩
    have HX4 := hid (HX3.out.trans hx4)
    clear hx4
    go_wp2
    go_ret
    exact ⟨rfl, HX4.out⟩
   by_cases h4 : kk = 4
   ·subst h4
    have HP : Hid (preT t = [97, 95]) := hid (by rw [preT, if_neg (by rw [HKK.out]; decide), if_pos HKK.out])
    rw [HP.out] at HR9
    have e1 : (⟨#[97, 95]⟩ : ByteArray) ++ strOf Z = strOf ([97, 95] ++ Z) := strOf_app [97, 95] _
    have z1 : ¬ 9223372036854775807 < 2 + (strOf Z).size := by rw [strOf_size]; omega
    obtain ⟨C1, hC1⟩ : ∃ C1, [97, 95] ++ Z = C1 := ⟨_, rfl⟩
    rw [hC1] at e1
    have e2 : strOf C1 ++ strOf D = strOf (C1 ++ D) := strOf_app _ _
    have z2 : ¬ 9223372036854775807 < (strOf C1).size + m := by rw [strOf_size, ← hC1]; simp; omega
    have HR8 : Hid (C1 ++ D = R) := hid (by rw [← hC1, List.append_assoc]; exact HR9.out)
    rw [HR8.out] at e2
    clear hC1 HB
    go_wp2_with fail
    refine (HSF.out).mono ?_
    rintro e w3 ⟨rfl, hx3⟩
    have HX3 := hid (HX2.out.trans hx3)
    clear hx3 o0
    go_wp2_with fail
    refine (HRP.out _).mono ?_
    rintro e w4 ⟨rfl, hx4⟩
    have HX4 := hid (HX3.out.trans hx4)
    clear hx4
    go_wp2
    go_ret
    exact ⟨rfl, HX4.out⟩
   ·have HP : Hid (preT t = [116, 95]) := hid (by rw [preT, if_neg (by rw [HKK.out]; exact h5), if_neg (by rw [HKK.out]; exact h4)])
    rw [HP.out] at HR9
    have e1 : (⟨#[116, 95]⟩ : ByteArray) ++ strOf Z = strOf ([116, 95] ++ Z) := strOf_app [116, 95] _
    have z1 : ¬ 9223372036854775807 < 2 + (strOf Z).size := by rw [strOf_size]; omega
    obtain ⟨C1, hC1⟩ : ∃ C1, [116, 95] ++ Z = C1 := ⟨_, rfl⟩
    rw [hC1] at e1
    have e2 : strOf C1 ++ strOf D = strOf (C1 ++ D) := strOf_app _ _
    have z2 : ¬ 9223372036854775807 < (strOf C1).size + m := by rw [strOf_size, ← hC1]; simp; omega
    have HR8 : Hid (C1 ++ D = R) := hid (by rw [← hC1, List.append_assoc]; exact HR9.out)
    rw [HR8.out] at e2
    clear hC1 HB
    go_wp2_with fail
    refine (HSF.out).mono ?_
    rintro e w3 ⟨rfl, hx3⟩
    have HX3 := hid (HX2.out.trans hx3)
    clear hx3 o0
    go_wp2_with fail
    refine (HRP.out _).mono ?_
    rintro e w4 ⟨rfl, hx4⟩
    have HX4 := hid (HX3.out.trans hx4)
    clear hx4
    go_wp2
    go_ret
    exact ⟨rfl, HX4.out⟩
end Go.Proofs.YtacmjhcfjhpkeaaGreatDoor
