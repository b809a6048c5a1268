/- The examples of the chapter on memory: exampleHolds is true. -/
import Derived.Test.YtjfdbfbdkjfgpaaLawA
import Derived.Test.YtjfdbfbdkjfgpaaLawB
import Derived.Test.YtjfdbfbdkjfgpaaMemG
namespace Go.Proofs.Ytjfdbfbdkjfgpaa
open Go.RowKit Go.Deco

def exName : ByteArray := { data := #[100] }
def exSec : Sec := ⟨exName, 8192, [17, 34, 51, 68], true, false⟩
def exRegs : List Reg := regsOf [exSec]
def exM : Nat → Option Nat := storeMap exRegs (fun _ => none) 8194 1 511

theorem ex_check : secCheck [exSec] = 0 := by decide +kernel
theorem ex_load1 : loadOf exRegs (fun _ => none) 8193 2 = (13090, 0) := by decide +kernel
theorem ex_load2 : (loadOf exRegs (fun _ => none) 8195 2).2 = 11 := by decide +kernel
theorem ex_store : storeErr exRegs 8194 1 = 0 := by decide +kernel
theorem ex_load3 : (loadOf exRegs exM 8192 4).1 = 1157571089 := by decide +kernel
theorem ex_load4 : loadOf exRegs exM 983036 4 = (0, 0) := by decide +kernel
theorem ex_load5 : (loadOf exRegs exM 983037 4).2 = 11 := by decide +kernel
theorem exM_eq (a : Nat) : exM a = if a = 8194 then some 255 else none := by
  have e : exM = setBytes (fun _ => none) 8194 511 1 := by
    unfold exM storeMap
    rw [if_pos ex_store]
    rfl
  rw [e]
  rfl
theorem ex_changed (a : Nat) : changedAt exRegs exM a = true ↔ a = 8194 := by
  constructor
  · intro h
    unfold changedAt at h
    rw [exM_eq] at h
    by_cases ha : a = 8194
    · exact ha
    · rw [if_neg ha] at h
      split at h <;> simp at h
  · rintro rfl
    decide +kernel
theorem ex_list {L : List Nat} (h1 : L.Pairwise (· < ·)) (h2 : ∀ a, a ∈ L ↔ changedAt exRegs exM a = true) : L = [8194] := by
  have h3 : ∀ a, a ∈ L ↔ a = 8194 := fun a => (h2 a).trans (ex_changed a)
  match L, h1, h3 with
  | [], _, h3 => exact absurd ((h3 8194).2 rfl) (by simp)
  | [x], _, h3 => rw [(h3 x).1 (by simp)]
  | x :: y :: r, h1, h3 =>
    have e1 := (h3 x).1 (by simp)
    have e2 := (h3 y).1 (by simp)
    rw [List.pairwise_cons] at h1
    have := h1.1 y (by simp)
    omega

theorem sl_one (w : World) (x : Nat) (hx : x < 4294967296) (t : TypeId) : Sl u32R (w.alloc (.cells #[.int .u32 x] t)) All (.slice (some ⟨w.heap.size, 0, none⟩) 1 1) [x] :=
  sl_of_chunks (R := u32R) (l := [x]) (c := 1) trivial (chunks_num.2 ⟨rfl, by simpa using hx⟩) (fun j u hu => by simpa using hu) (by simp) (by simp [maxLen])

/-- The section in memory. -/
theorem ex_sl (w : World) (t1 t2 : TypeId) : Sl secR ((w.alloc (.cells #[.int .u8 17, .int .u8 34, .int .u8 51, .int .u8 68] t1)).alloc
      (.cells #[.string exName, .int .u32 8192, .slice (some ⟨w.heap.size, 0, none⟩) 4 4, .bool true, .bool false] t2)) All (.slice (some ⟨w.heap.size + 1, 0, none⟩) 1 1) [exSec] := by
  have h8 : Sl u8R (w.alloc (.cells #[.int .u8 17, .int .u8 34, .int .u8 51, .int .u8 68] t1)) All (.slice (some ⟨w.heap.size, 0, none⟩) 4 4) [17, 34, 51, 68] :=
    sl_of_chunks (R := u8R) (l := [17, 34, 51, 68]) (c := 4) trivial (chunks_num.2 ⟨rfl, by decide⟩) (fun j u hu => by
      simpa using hu) (by simp) (by simp [maxLen])
  refine sl_of_chunks (R := secR) (l := [exSec]) (c := 1) trivial (Chunks.single (cs := [.string exName, .int .u32 8192, .slice (some ⟨w.heap.size, 0, none⟩) 4 4, .bool true, .bool false]) ⟨_, rfl, h8.ext ((Ext.refl _).alloc _), by decide, by decide⟩) (fun j u hu => ?_) (by simp) (by simp [maxLen])
  simpa using hu

set_option maxRecDepth 100000 in
set_option maxHeartbeats 1000000 in
theorem example_any (w : World) : Calls Try.prog 11 #[] w (OneBool w true) := by
  go_enter Try.func11, Try.ntmps11
  go_wp2_with fail
  refine (new_any _ _ 1 1 [exSec] (ex_sl w _ _)).mono ?_
  rintro e w1 ⟨hx1, ⟨h0, _⟩ | ⟨_, mb, bm, rfl, hmb, hbm, hm⟩⟩
  · exact absurd ex_check h0
  have hX1 : Ext w w1 := (((Ext.refl w).alloc _).alloc _).trans hx1
  have HX1 := hid hX1
  have hbw : w.heap.size ≤ bm := by simp at hbm; omega
  have HM := hid hm
  clear hx1 hX1 hm hmb hbm
  go_wp2_with fail
  refine (load_any w1 mb bm 0 exRegs _ HM.out 8193 (by omega) 2 (by omega) (by omega)).mono ?_
  rintro e w2 ⟨rfl, hx2⟩
  have HX2 := hid hx2; clear hx2
  rw [ex_load1]
  go_wp2_with fail
  refine (load_any w2 mb bm 0 exRegs _ (HM.out.ext HX2.out) 8195 (by omega) 2 (by omega) (by omega)).mono ?_
  rintro e w3 ⟨rfl, hx3⟩
  have HX3 := hid (HX2.out.trans hx3); clear hx3
  rw [ex_load2]
  go_wp2_with fail
  refine (store_any w3 mb bm 0 exRegs _ (HM.out.ext HX3.out) (by omega) 8194 (by omega) 1 (by omega) (by omega) 511).mono ?_
  rintro e w4 ⟨rfl, hm4, hg4⟩
  rw [ex_store]
  have hX4 : Ext w w4 := (HX1.out.trans HX3.out).grown hg4 (fun j hj => by cases hj; exact hbw)
  have HX4 := hid hX4
  have HM4 : Hid (Mem w4 mb bm exRegs exM 4) := hid hm4
  clear hm4 hg4 hX4
  go_wp2_with fail
  refine (load_any w4 mb bm 4 exRegs _ HM4.out 8192 (by omega) 4 (by omega) (by omega)).mono ?_
  rintro e w5 ⟨rfl, hx5⟩
  have HX5 := hid hx5; clear hx5
  rw [ex_load3]
  go_wp2_with fail
  refine (changes_any w5 mb bm 4 exRegs _ (HM4.out.ext HX5.out)).mono ?_
  rintro e w6 ⟨hx6, v, L, rfl, hsl, hpw, hmem⟩
  obtain rfl := ex_list hpw hmem
  obtain ⟨cA, cc, rfl, hc1, hc2⟩ := hsl.form
  have HX6 := hid (HX5.out.trans hx6)
  have HSL := hid hsl
  clear hsl hx6 hpw hmem
  go_wp2_with fail
  refine (load_any w6 mb bm 4 exRegs _ (HM4.out.ext HX6.out) 983036 (by omega) 4 (by omega) (by omega)).mono ?_
  rintro e w7 ⟨rfl, hx7⟩
  have HX7 := hid hx7; clear hx7
  rw [ex_load4]
  go_wp2_with fail
  refine (load_any w7 mb bm 4 exRegs _ (HM4.out.ext (HX6.out.trans HX7.out)) 983037 (by omega) 4 (by omega) (by omega)).mono ?_
  rintro e w8 ⟨rfl, hx8⟩
  have HX8 := hid (HX7.out.trans hx8); clear hx8
  rw [ex_load5]
  go_wp2_with fail
  refine (words_any (w8.alloc (.cells #[.int .u32 8194] 23)) _ (Ext.refl _) cA (some ⟨w8.heap.size, 0, none⟩) 1 1 cc 1 [8194] [8194] ((HSL.out.ext HX8.out).ext ((Ext.refl _).alloc _)) (sl_one w8 8194 (by omega) _)).mono ?_
  rintro e w9 ⟨rfl, hx9⟩
  have HX9 := hid (((HX4.out.trans (HX6.out.trans HX8.out)).alloc (.cells #[.int .u32 8194] 23)).trans hx9); clear hx9
  have hd : decide ([8194] = [8194]) = true := rfl
  rw [hd]
  clear hd
  go_wp2
  go_ret
  exact ⟨rfl, HX9.out⟩
end Go.Proofs.Ytjfdbfbdkjfgpaa
