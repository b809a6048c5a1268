/- slices.Sort at []int on a slice that the call owns: the shelf's contract, laid at the program of chapter 34 (the numbers are that seat's; printed by wip/mklay.py). slices.Compact at []int (numbers below 65536): turned from U32A. -/
import Derived.Test.YtacmjhcfjhpkeaaGreatDoorProg
import Derived.Test.YtacmjhcfjhpkeaaGreatDoorPlam
import Derived.Shelf.Sort.Plain
import Derived.Shelf.Slices.In.SortNone
import Derived.Sort.OwnSortedInts
import Derived.Test.YtacmjhcfjhpkeaaGreatDoorPlbm
import Derived.Lib.SliceRun
import Derived.Deep.QuietTactic
import Derived.BigQuiet
namespace Go.Proofs.YtacmjhcfjhpkeaaGreatDoor
open Go.RowKit Go.Deco Go.Sort Go.Shelf
def Tryz.sort189_ren : Go.Shelf.Ren := ⟨fun | 189 => 53 | 125 => 92 | 257 => 91 | 128 => 127 | 129 => 128 | 294 => 118 | 295 => 119 | 296 => 120 | 297 => 121 | 298 => 122 | 299 => 123 | 216 => 124 | 300 => 125 | 301 => 126 | 328 => 139 | 329 => 140 | 330 => 141 | 331 => 142 | 332 => 143 | 215 => 113 | 343 => 148 | n => n, fun | 28 => 36 | 3 => 3 | 46 => 91 | 0 => 0 | 51 => 61 | 53 => 64 | 4 => 4 | 183 => 136 | 182 => 135 | 131 => 50 | 5 => 5 | 9 => 9 | 218 => 153 | 222 => 157 | 228 => 160 | 229 => 161 | n => n, fun n => n⟩
theorem Tryz.sort189 : Lays.n189 Tryz.prog Tryz.sort189_ren := {
 mixed := by kernel_rfl
 f125 := Tryz.func92.trans (congrArg some (by kernel_rfl))
 f128 := Tryz.func127.trans (congrArg some (by kernel_rfl))
 f129 := Tryz.func128.trans (congrArg some (by kernel_rfl))
 f189 := Tryz.func53.trans (congrArg some (by kernel_rfl))
 f215 := Tryz.func113.trans (congrArg some (by kernel_rfl))
 f216 := Tryz.func124.trans (congrArg some (by kernel_rfl))
 f257 := Tryz.func91.trans (congrArg some (by kernel_rfl))
 f294 := Tryz.func118.trans (congrArg some (by kernel_rfl))
 f295 := Tryz.func119.trans (congrArg some (by kernel_rfl))
 f296 := Tryz.func120.trans (congrArg some (by kernel_rfl))
 f297 := Tryz.func121.trans (congrArg some (by kernel_rfl))
 f298 := Tryz.func122.trans (congrArg some (by kernel_rfl))
 f299 := Tryz.func123.trans (congrArg some (by kernel_rfl))
 f300 := Tryz.func125.trans (congrArg some (by kernel_rfl))
 f301 := Tryz.func126.trans (congrArg some (by kernel_rfl))
 f328 := Tryz.func139.trans (congrArg some (by kernel_rfl))
 f329 := Tryz.func140.trans (congrArg some (by kernel_rfl))
 f330 := Tryz.func141.trans (congrArg some (by kernel_rfl))
 f331 := Tryz.func142.trans (congrArg some (by kernel_rfl))
 f332 := Tryz.func143.trans (congrArg some (by kernel_rfl))
 f343 := Tryz.func148.trans (congrArg some (by kernel_rfl))
 t0 := Tryz.underlying0
 a0 := Tryz.isAgg0
 z0 := Tryz.sizeOf0
 v0 := Tryz.zeroValue0
 t3 := Tryz.underlying3
 a3 := Tryz.isAgg3
 z3 := Tryz.sizeOf3
 v3 := Tryz.zeroValue3
 t4 := Tryz.underlying4
 a4 := Tryz.isAgg4
 z4 := Tryz.sizeOf4
 v4 := Tryz.zeroValue4
 t5 := Tryz.underlying5
 a5 := Tryz.isAgg5
 z5 := Tryz.sizeOf5
 v5 := Tryz.zeroValue5
 t9 := Tryz.underlying9
 a9 := Tryz.isAgg9
 z9 := Tryz.sizeOf9
 v9 := Tryz.zeroValue9
 t28 := Tryz.underlying36
 a28 := Tryz.isAgg36
 z28 := Tryz.sizeOf36
 v28 := Tryz.zeroValue36
 t46 := Tryz.underlying91
 a46 := Tryz.isAgg91
 z46 := Tryz.sizeOf91
 v46 := Tryz.zeroValue91
 t51 := Tryz.underlying61
 a51 := Tryz.isAgg61
 z51 := Tryz.sizeOf61
 v51 := Tryz.zeroValue61
 t53 := Tryz.underlying64
 a53 := Tryz.isAgg64
 z53 := Tryz.sizeOf64
 v53 := Tryz.zeroValue64
 t131 := Tryz.underlying50
 a131 := Tryz.isAgg50
 z131 := Tryz.sizeOf50
 v131 := Tryz.zeroValue50
 t182 := Tryz.underlying135
 a182 := Tryz.isAgg135
 z182 := Tryz.sizeOf135
 v182 := Tryz.zeroValue135
 t183 := Tryz.underlying136
 a183 := Tryz.isAgg136
 z183 := Tryz.sizeOf136
 v183 := Tryz.zeroValue136
 t218 := Tryz.underlying153
 a218 := Tryz.isAgg153
 z218 := Tryz.sizeOf153
 v218 := Tryz.zeroValue153
 t222 := Tryz.underlying157
 a222 := Tryz.isAgg157
 z222 := Tryz.sizeOf157
 v222 := Tryz.zeroValue157
 t228 := Tryz.underlying160
 a228 := Tryz.isAgg160
 z228 := Tryz.sizeOf160
 v228 := Tryz.zeroValue160
 t229 := Tryz.underlying161
 a229 := Tryz.isAgg161
 z229 := Tryz.sizeOf161
 v229 := Tryz.zeroValue161 }

abbrev offR : Rep Nat := numR .i64 65536
/-- The list in ascending order. -/
def sorted32 (l : List Nat) : List Nat := l.mergeSort fun x y => decide (x ≤ y)
theorem sorted32_length (l : List Nat) : (sorted32 l).length = l.length := List.length_mergeSort _
theorem sorted32_mem {l : List Nat} {a : Nat} : a ∈ sorted32 l ↔ a ∈ l := List.mem_mergeSort
theorem sorted32_int (l : List Nat) : ((l.map (fun x : Nat => (x : Int))).mergeSort fun x y => decide (x ≤ y)) = (sorted32 l).map (fun x : Nat => (x : Int)) := by
 rw [sorted32, List.map_mergeSort]
 intro a _ b _
 exact decide_eq_decide.2 (by omega)

theorem sorti_own {w : World} {base : Nat} {T : Nat → Prop} {A : Option Addr} {c : Nat} {l : List Nat} (h : OwnS offR w base 3 T (.slice A l.length c) l) (hlen : l.length < 4611686018427387904) :
  Calls Tryz.prog 53 #[.slice A l.length c] w fun e w' => e = .returned (.tuple #[]) ∧ OwnS offR w' base 3 T (.slice A l.length c) (sorted32 l) ∧ w.grownBy w' (Value.slice A l.length c).ownBlock := by
 by_cases h0 : l = []
 ·subst h0
  refine (Any.slices_Sort_int_none Tryz.sort189 A c w).mono ?_
  rintro e w' ⟨rfl, rfl⟩
  have e0 : sorted32 [] = [] := by simp [sorted32]
  rw [e0]
  exact ⟨rfl, h, (Ext.refl _).grownBy _⟩
 ·obtain ⟨xs, ho, hc⟩ := h
  obtain ⟨rfl, hlt⟩ := chunks_num.1 hc
  rcases ho.2 with ⟨hv, hn⟩ | ⟨g, cap, cur, hv, hg, hb, h1, h2, h3, h4⟩
  ·exact absurd (List.eq_nil_of_length_eq_zero hn) h0
  cases hv
  have h4' : cur.toList.take (l.map (fun x : Nat => (x : Int))).length = (l.map (fun x : Nat => (x : Int))).map (Value.int .i64) := by
   rw [List.length_map, List.map_map]
   have : l.length * (numR .i64 65536).size = l.length := by simp [numR]
   rw [this] at h4
   exact h4
  have hs := Any.slices_Sort_int Tryz.sort189 g 0 c (l.map (fun x : Nat => (x : Int))) w (holds_of_blockI hb h4') (Array.getElem?_eq_some_iff.1 hb).1 (by
   rw [List.length_map]
   exact hlen)
  rw [List.length_map] at hs
  refine hs.mono ?_
  rintro e w' ⟨rfl, n, os, rfl⟩
  rw [sorted32_int]
  refine ⟨rfl, ⟨_, ?_, chunks_num.2 ⟨rfl, fun x hx => hlt x (sorted32_mem.1 hx)⟩⟩, grownBy_sortedI _⟩
  have := ownsRow_sortedI (w := w) (base := base) (g := g) (cap := c) (n := n) (e := 3) (os := os) (cur := cur) (ss := l.map (fun x : Nat => (x : Int))) (ts := (sorted32 l).map (fun x : Nat => (x : Int))) (by simp [sorted32_length]) hg hb (by simpa using h1) h2 h3
  rw [List.length_map, List.map_map] at this
  rw [sorted32_length]
  exact this
end Go.Proofs.YtacmjhcfjhpkeaaGreatDoor

namespace Go.Proofs.YtacmjhcfjhpkeaaGreatDoor
open Go.RowKit Go.Deco
set_option linter.unusedSimpArgs false
set_option linter.unusedVariables false

/-! ### words on owned rows of numbers -/
theorem own_take {kd : IntKind} {bd base n c k : Nat} {A : Option Addr} {w : World} {T : Nat → Prop} {e : TypeId} {R : List Nat} (h : OwnS (numR kd bd) w base e T (.slice A n c) R) (hk : k ≤ n) (h0 : 0 < n) :
  OwnS (numR kd bd) w base e T (.slice A k c) (R.take k) := by
 have hn := h.len
 obtain ⟨xs, ho, hc⟩ := h
 obtain ⟨rfl, hb⟩ := chunks_num.1 hc
 have hkl : (R.take k).length = k := by rw [List.length_take]; omega
 refine ⟨(R.take k).map (fun x : Nat => Value.int kd x), ?_, chunks_num.2 ⟨rfl, fun x hx => hb x (List.mem_of_mem_take hx)⟩⟩
 obtain ⟨h1, h2⟩ := ho
 rcases h2 with ⟨hv, hl⟩ | ⟨g, cap, cur, hv, hg, hb1, h3, h4, h5, h6⟩
 ·omega
 ·cases hv
  refine ⟨by simp [numR], .inr ⟨g, _, cur, by rw [hkl], hg, hb1, by rw [hkl]; omega, h4, h5, ?_⟩⟩
  have e1 : (numR kd bd).size = 1 := rfl
  rw [e1, Nat.mul_one] at h6 ⊢
  rw [hkl, List.map_take, ← h6, List.take_take, ← hn, Nat.min_eq_left hk]
theorem own_clear {kd : IntKind} {bd base n c g : Nat} {T : Nat → Prop} {e : TypeId} (hbd : 0 < bd) : ∀ (m k : Nat) {w : World} {R : List Nat}, OwnS (numR kd bd) w base e T (.slice (some ⟨g, 0, none⟩) n c) R →
  ∃ R', OwnS (numR kd bd) (w.setCells g k (List.replicate m (.int kd 0))) base e T (.slice (some ⟨g, 0, none⟩) n c) R' ∧ R'.take k = R.take k
 | 0, k, w, R, h => ⟨R, by simpa [World.setCells] using h, rfl⟩
 | m + 1, k, w, R, h => by
  have h1 := h.num_set (x := 0) hbd k
  obtain ⟨R', h2, h3⟩ := own_clear hbd m (k + 1) h1
  refine ⟨R', by simpa [World.setCells, List.replicate_succ] using h2, ?_⟩
  have h4 := congrArg (List.take k) h3
  rw [List.take_take, List.take_take, Nat.min_eq_left (by omega)] at h4
  rw [h4]
  apply List.ext_getElem?
  intro j
  by_cases hj : j < k
  ·rw [List.getElem?_take_of_lt hj, List.getElem?_take_of_lt hj, List.getElem?_set_ne (by omega)]
  ·rw [List.getElem?_take_eq_none (by omega), List.getElem?_take_eq_none (by omega)]
theorem ext_setCells {w0 : World} {g : Nat} (hg : w0.heap.size ≤ g) : ∀ (vs : List Value) (k : Nat) {w : World}, Ext w0 w → Ext w0 (w.setCells g k vs)
 | [], k, w, h => by simpa [World.setCells] using h
 | v :: vs, k, w, h => by simpa [World.setCells] using ext_setCells hg vs (k + 1) (h.setCell hg v)
theorem take_set_lt {R : List Nat} {k j x : Nat} (h : j ≤ k) : (R.set k x).take j = R.take j := by
 apply List.ext_getElem?
 intro i
 by_cases hi : i < j
 ·rw [List.getElem?_take_of_lt hi, List.getElem?_take_of_lt hi, List.getElem?_set_ne (by omega)]
 ·rw [List.getElem?_take_eq_none (by omega), List.getElem?_take_eq_none (by omega)]
theorem take_set_snoc {R : List Nat} {k x : Nat} (h : k < R.length) : (R.set k x).take (k + 1) = R.take k ++ [x] := by
 rw [take_snoc' (show (R.set k x)[k]? = some x by rw [List.getElem?_set_self h]), take_set_lt (Nat.le_refl _)]
theorem zero_i64c : ∀ w, (zeroValue 3).run Tryz.prog w = .ok (.int .i64 0) w := fun w => by kernel_rfl
theorem clear_run {w : World} {g n c k base : Nat} {T : Nat → Prop} {R : List Nat} (h : OwnS offR w base 3 T (.slice (some ⟨g, 0, none⟩) n c) R) (hk : k < n) (ty : TypeId) :
  (Builtin.clear_ #[36] ty #[.slice (some ⟨g, k, none⟩) (n - k) (c - k)]).run Tryz.prog w = .ok (.tuple #[]) (w.setCells g k (List.replicate (n - k) (.int .i64 0))) := by
 have hn := h.len
 refine Lib.run_clear_slice w 36 3 ty (.int .i64 0) Tryz.underlying36 zero_i64c rfl rfl g k (n - k) (c - k) (by omega) (fun j hj => ?_) (fun j hj => ?_)
 ·obtain ⟨x, hx⟩ : ∃ x, R[k + j]? = some x := ⟨_, List.getElem?_eq_getElem (by omega)⟩
  rw [(h.num_cell hx).1]
  rfl
 ·obtain ⟨x, hx⟩ : ∃ x, R[k + j]? = some x := ⟨_, List.getElem?_eq_getElem (by omega)⟩
  exact (h.num_cell hx).2

/-- A list in a row of the call's own. -/
def RowPost (wo : World) (l : List Nat) (e : Ending) (w' : World) : Prop := Ext wo w' ∧ ∃ A c, e = .returned (.slice A l.length c) ∧ OwnS offR w' wo.heap.size 3 All (.slice A l.length c) l

/-! ### Clone -/
def ddn (l : List Nat) : Nat → List Nat
 | 0 => []
 | m + 1 => match l[m]? with
  | none => ddn l m
  | some x => if 0 < m ∧ l[m - 1]? = some x then ddn l m else ddn l m ++ [x]
theorem ddn_same {l : List Nat} {m x : Nat} (h0 : 0 < m) (h1 : l[m]? = some x) (h2 : l[m - 1]? = some x) : ddn l (m + 1) = ddn l m := by rw [ddn, h1]; simp [h0, h2]
theorem ddn_new {l : List Nat} {m x y : Nat} (h1 : l[m]? = some x) (h2 : l[m - 1]? = some y) (hne : x ≠ y) : ddn l (m + 1) = ddn l m ++ [x] := by
 rw [ddn, h1]
 have : y ≠ x := fun e => hne e.symm
 simp [h2, this]
theorem ddn_one {l : List Nat} {x : Nat} (h1 : l[0]? = some x) : ddn l 1 = [x] := by rw [ddn, h1]; simp [ddn]
theorem insOf_in : ∀ {L : List Nat} {x : Nat}, L.Pairwise (· < ·) → x ∈ L → insOf L x = L
 | [], x, _, h => by simp at h
 | y :: r, x, hp, h => by
  rw [List.pairwise_cons] at hp
  rw [insOf]
  rcases List.mem_cons.1 h with rfl | h
  ·simp
  ·have := hp.1 x h
   rw [if_pos this, insOf_in hp.2 h]
theorem insOf_gt : ∀ {L : List Nat} {x : Nat}, (∀ y ∈ L, y < x) → insOf L x = L ++ [x]
 | [], x, _ => rfl
 | y :: r, x, h => by
  rw [insOf, if_pos (h y (by simp)), insOf_gt fun z hz => h z (by simp [hz])]
  rfl
theorem ddn_sorted {l : List Nat} (h : l.Pairwise (· ≤ ·)) : ∀ m, m ≤ l.length → ddn l m = asc (l.take m)
 | 0, _ => by simp [ddn, asc]
 | m + 1, hm => by
  have hx := List.getElem?_eq_getElem (show m < l.length by omega)
  rw [take_snoc' hx, asc_snoc, ← ddn_sorted h m (by omega)]
  have hle : ∀ y ∈ l.take m, y ≤ l[m] := by
   intro y hy
   obtain ⟨j, hj, rfl⟩ := List.getElem_of_mem hy
   simp at hj
   rw [List.getElem_take]
   exact (List.pairwise_iff_getElem.1 h) j m (by omega) (by omega) (by omega)
  rcases Nat.eq_zero_or_pos m with h0 | h0
  ·subst h0
   rw [ddn_one hx]
   rfl
  ·have hy := List.getElem?_eq_getElem (show m - 1 < l.length by omega)
   by_cases e : l[m] = l[m - 1]
   ·rw [ddn_same h0 hx (by rw [hy, e]), insOf_in (by rw [ddn_sorted h m (by omega)]; exact asc_pw _)]
    rw [ddn_sorted h m (by omega), asc_mem, e]
    exact List.mem_of_getElem? (i := m - 1) (by rw [List.getElem?_take_of_lt (by omega)]; exact hy)
   ·rw [ddn_new hx hy e, insOf_gt]
    intro y hy'
    rw [ddn_sorted h m (by omega), asc_mem] at hy'
    obtain ⟨j, hj, rfl⟩ := List.getElem_of_mem hy'
    simp at hj
    rw [List.getElem_take]
    have h1 : l[j] ≤ l[m - 1] := by
     rcases Nat.lt_or_ge j (m - 1) with h2 | h2
     ·exact (List.pairwise_iff_getElem.1 h) j (m - 1) (by omega) (by omega) h2
     ·have : j = m - 1 := by omega
      subst this
      exact Nat.le_refl _
    have h2 : l[m - 1] ≤ l[m] := (List.pairwise_iff_getElem.1 h) (m - 1) m (by omega) (by omega) (by omega)
    omega
theorem ddn_all {l : List Nat} : ∀ {m : Nat}, m ≤ l.length → (∀ j, 0 < j → j < m → l[j]? ≠ l[j - 1]?) → ddn l m = l.take m
 | 0, _, _ => by simp [ddn]
 | m + 1, hm, h => by
  have hx := List.getElem?_eq_getElem (show m < l.length by omega)
  rw [take_snoc' hx, ← ddn_all (m := m) (by omega) fun j h1 h2 => h j h1 (by omega), ddn, hx]
  by_cases h0 : 0 < m
  ·have := h m h0 (by omega)
   rw [hx] at this
   have : ¬ l[m - 1]? = some l[m] := fun e => this e.symm
   simp [this]
  ·simp [h0]
/-- What the row holds while Compact runs: the first k numbers are the distinct ones of the first m; from m - 1 on it is as it was. -/
structure Comp (l R : List Nat) (m k : Nat) : Prop where
 len : R.length = l.length
 low : R.take k = ddn l m
 kl : k = (ddn l m).length
 high : ∀ t, m - 1 ≤ t → R[t]? = l[t]?
 lt : k < m
theorem Comp.start {l : List Nat} {m x : Nat} (hm : m < l.length) (h0 : 0 < m) (hall : ∀ j, 0 < j → j < m → l[j]? ≠ l[j - 1]?) (h1 : l[m]? = some x) (h2 : l[m - 1]? = some x) : Comp l l (m + 1) m := by
 have e := ddn_all (l := l) (m := m) (by omega) hall
 refine ⟨rfl, by rw [ddn_same h0 h1 h2, e], ?_, fun _ _ => rfl, by omega⟩
 rw [ddn_same h0 h1 h2, e, List.length_take]
 omega
theorem Comp.skip {l R : List Nat} {m k x : Nat} (h : Comp l R m k) (h1 : l[m]? = some x) (h2 : l[m - 1]? = some x) : Comp l R (m + 1) k := by
 have e := ddn_same (by have := h.lt; omega) h1 h2
 exact ⟨h.len, by rw [e]; exact h.low, by rw [e]; exact h.kl, fun t ht => h.high t (by omega), by have := h.lt; omega⟩
theorem Comp.keep {l R : List Nat} {m k x y : Nat} (h : Comp l R m k) (hm : m < l.length) (h1 : l[m]? = some x) (h2 : l[m - 1]? = some y) (hne : x ≠ y) : Comp l (R.set k x) (m + 1) (k + 1) := by
 have e := ddn_new h1 h2 hne
 have hlt := h.lt
 refine ⟨by rw [List.length_set]; exact h.len, ?_, by rw [e, List.length_append, ← h.kl]; rfl, fun t ht => ?_, by omega⟩
 ·rw [take_set_snoc (by rw [h.len]; omega), h.low, e]
 ·rw [List.getElem?_set_ne (by omega)]
  exact h.high t (by omega)


set_option maxRecDepth 100000 in
set_option maxHeartbeats 2000000 in
theorem compacti_any (wo w : World) (ho : Ext wo w) (A : Option Addr) (n c : Nat) (l : List Nat) (hown : OwnS offR w wo.heap.size 3 All (.slice A n c) l) (hn : n ≤ 1000000) :
  Calls Tryz.prog 54 #[.slice A n c] w (RowPost wo (ddn l n)) := by
 have hln := hown.len
 obtain ⟨L, hL⟩ : ∃ L, ddn l n = L := ⟨_, rfl⟩
 rw [hL]
 have HLL := hid hL; clear hL
 have HO := hid hown
 have HX := hid ho; clear ho
 have HLN := hid hln; clear hln
 by_cases h2 : n < 2
 ·clear hown
  go_enter Tryz.func54, Tryz.ntmps54
  go_wp2
  go_ret
  have e : ddn l n = l := by
   have := ddn_all (l := l) (m := n) (by have := HLN.out; omega) (fun j h3 h4 => by omega)
   rw [this, List.take_of_length_le (by have := HLN.out; omega)]
  rw [← HLL.out, e]
  have hh := HO.out
  rw [HLN.out] at hh ⊢
  exact ⟨HX.out, A, c, rfl, hh⟩
 ·obtain ⟨g, rfl, hg1, hg2⟩ := hown.at0 (by omega)
  clear hown
  have hcap : n ≤ c ∧ c ≤ 9223372036854775807 := by
   obtain ⟨A', c', hv, h3, h4⟩ := HO.out.form
   cases hv
   have := HLN.out
   exact ⟨by omega, h4⟩
  have hnc := hcap.1
  have hcm := hcap.2
  clear hcap
  go_enter Tryz.func54, Tryz.ntmps54
  go_wp2
  go_loopw [3] (fun i wr => ∃ k : Nat, 1 ≤ k ∧ k ≤ n ∧ i = .int .i64 k ∧ Hid (Ext wo wr) ∧ Hid (OwnS offR wr wo.heap.size 3 All (.slice (some ⟨g, 0, none⟩) n c) l) ∧ Hid (∀ j, 0 < j → j < k → l[j]? ≠ l[j - 1]?)) (fun i _ => n - (intOf i).toNat)
  case atStart => exact ⟨1, by omega, by omega, rfl, HX, HO, hid (fun j h3 h4 => by omega)⟩
  case round =>
   obtain ⟨k, hk0, hk, rfl, HX1, HO1, ha⟩ := hrel
   by_cases h1 : k < n
   ·obtain ⟨x, hx⟩ : ∃ x, l[k]? = some x := ⟨_, List.getElem?_eq_getElem (by have := HLN.out; omega)⟩
    obtain ⟨y, hy⟩ : ∃ y, l[k - 1]? = some y := ⟨_, List.getElem?_eq_getElem (by have := HLN.out; omega)⟩
    obtain ⟨cx, fx⟩ := HO1.out.num_cell hx
    obtain ⟨cy, fy⟩ := HO1.out.num_cell hy
    have HXK := hid hx; clear hx
    have HYK := hid hy; clear hy
    have hkk : (k : Int) - 1 = ((k - 1 : Nat) : Int) := by omega
    by_cases hxy : x = y
    ·subst hxy
     have hxx : ((x : Int) == (x : Int)) = true := by simp
     go_wp2_with fail
     go_quiet (fail)
     clear hxx cx cy fx fy
     have hck : ¬ c = k := by omega
     go_wp2
     clear hkk
     go_loopw [3, 5] (fun s3 s5 wi => ∃ (q j : Nat) (R : List Nat), s3 = .int .i64 q ∧ s5 = .int .i64 j ∧ 1 ≤ j ∧ k + j ≤ n ∧ Hid (Ext wo wi) ∧ Hid (OwnS offR wi wo.heap.size 3 All (.slice (some ⟨g, 0, none⟩) n c) R) ∧ Hid (Comp l R (k + j) q)) (fun _ s5 _ => n - (intOf s5).toNat)
     case atStart => exact ⟨k, 1, l, rfl, rfl, Nat.le_refl _, by omega, hid (HX1.out.drewN _), hid (HO1.out.drN _), hid (Comp.start (by have := HLN.out; omega) hk0 ha.out HXK.out HYK.out)⟩
     case round =>
      clear HX1 HO1
      obtain ⟨q, j, R, rfl, rfl, hj, hjn, HX1, HO1, HC⟩ := hrel
      have hqlt : q < k + j := HC.out.lt
      by_cases h3 : k + j < n
      ·have hjk : (j : Int) < ((n - k : Nat) : Int) := by omega
       obtain ⟨u, hu⟩ : ∃ u, l[k + j]? = some u := ⟨_, List.getElem?_eq_getElem (by have := HLN.out; omega)⟩
       obtain ⟨v, hv⟩ : ∃ v, l[k + j - 1]? = some v := ⟨_, List.getElem?_eq_getElem (by have := HLN.out; omega)⟩
       obtain ⟨z, hz⟩ : ∃ z, R[q]? = some z := ⟨_, List.getElem?_eq_getElem (by have := HLN.out; have := HC.out.len; omega)⟩
       obtain ⟨cu, fu⟩ := HO1.out.num_cell ((HC.out.high _ (by omega)).trans hu)
       obtain ⟨cv, fv⟩ := HO1.out.num_cell ((HC.out.high _ (by omega)).trans hv)
       obtain ⟨cz, fz⟩ := HO1.out.num_cell hz
       have hu32 : u < 65536 := HO1.out.num_lt u (List.mem_of_getElem? ((HC.out.high _ (by omega)).trans hu))
       rw [show k + j - 1 = k + (j - 1) by omega] at cv
       have HU := hid hu; clear hu
       have HV := hid hv; clear hv
       have hjj : (j : Int) - 1 = ((j - 1 : Nat) : Int) := by omega
       clear hz fu fv
       by_cases huv : u = v
       ·subst huv
        have hxx : ((u : Int) != (u : Int)) = false := by simp
        go_wp2_with fail
        go_quiet (fail)
        clear hxx hjj cu cv cz
        go_wp2
        go_roundw
        case rel => exact ⟨q, j + 1, R, rfl, by go_num, by omega, by omega, hid (HX1.out.drewN _), hid (HO1.out.drN _), hid (HC.out.skip HU.out HV.out)⟩
        case measure => simp [intOf]; omega
       ·have hxx : ((u : Int) != (v : Int)) = true := by simp; omega
        go_wp2_with fail
        go_quiet (fail)
        clear hxx hjj
        go_wp2
        go_roundw
        case rel => exact ⟨q + 1, j + 1, R.set q u, by go_num, by go_num, by omega, by omega, hid ((HX1.out.drewN _).setCell hg1 _), hid ((HO1.out.drN _).num_set hu32 q), hid (HC.out.keep (by have := HLN.out; omega) HU.out HV.out huv)⟩
        case measure => simp [intOf]; omega
      ·have hjk : ¬ (j : Int) < ((n - k : Nat) : Int) := by omega
       have hkj : k + j = n := by omega
       have hcl := fun ty => clear_run HO1.out (k := q) (by omega) ty
       have hcq : ¬ c = q := by omega
       go_wp2
       go_ret
       obtain ⟨R', h5, h6⟩ := own_clear (kd := .i64) (bd := 65536) (by omega) (n - q) q HO1.out
       have h7 := own_take h5 (k := q) (by omega) (by omega)
       rw [h6, HC.out.low, hkj, HLL.out] at h7
       have h8 := HC.out.kl
       rw [hkj, HLL.out] at h8
       subst h8
       exact ⟨ext_setCells hg1 _ _ HX1.out, _, _, rfl, h7⟩
    ·have hxx : ((x : Int) == (y : Int)) = false := by simp; omega
     go_wp2_with fail
     go_quiet (fail)
     go_wp2
     go_roundw
     case rel =>
      refine ⟨k + 1, by omega, by omega, by go_num, hid (HX1.out.drewN _), hid (HO1.out.drN _), hid fun j h3 h4 => ?_⟩
      ·rcases Nat.lt_or_ge j k with h5 | h5
       ·exact ha.out j h3 h5
       ·obtain rfl : j = k := by omega
        rw [HXK.out, HYK.out]
        intro e
        injection e with e
        exact hxy e
     case measure => simp [intOf]; omega
   ·obtain rfl : k = n := by omega
    go_wp2
    go_ret
    have e : ddn l k = l := by
     have := ddn_all (l := l) (m := k) (by have := HLN.out; omega) ha.out
     rw [this, List.take_of_length_le (by have := HLN.out; omega)]
    rw [← HLL.out, e]
    have hh := HO1.out
    rw [HLN.out] at hh ⊢
    exact ⟨HX1.out, some ⟨g, 0, none⟩, c, rfl, hh⟩
end Go.Proofs.YtacmjhcfjhpkeaaGreatDoor
