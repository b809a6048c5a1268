/- Merged by program from texts of my own. -/
import Derived.Test.YtlmipgdnlfjpaaaProg
import Derived.Test.YtlmipgdnlfjpaaaBasm
import Derived.Shelf.Sort.Plain
import Derived.Shelf.Slices.In.SortNone
import Derived.Sort.OwnSortedInts
namespace Go.Proofs.Ytlmipgdnlfjpaaa
open Go.RowKit Go.Deco Go.Sort Go.Shelf
set_option linter.unusedSimpArgs false
def Try.sort189_ren : Go.Shelf.Ren := ⟨fun | 189 => 52 | 125 => 64 | 257 => 63 | 128 => 84 | 129 => 85 | 294 => 75 | 295 => 76 | 296 => 77 | 297 => 78 | 298 => 79 | 299 => 80 | 216 => 81 | 300 => 82 | 301 => 83 | 328 => 89 | 329 => 90 | 330 => 91 | 331 => 92 | 332 => 93 | 215 => 88 | 343 => 94 | n => n, fun | 28 => 28 | 3 => 3 | 46 => 106 | 0 => 0 | 51 => 124 | 53 => 126 | 4 => 4 | 183 => 117 | 182 => 116 | 131 => 121 | 5 => 5 | 9 => 9 | 218 => 130 | 222 => 134 | 228 => 136 | 229 => 137 | n => n, fun  | n => n⟩
theorem Try.sort189 : Lays.n189 Try.prog Try.sort189_ren := {
 mixed := by kernel_rfl
 f125 := Try.func64.trans (congrArg some (by kernel_rfl))
 f128 := Try.func84.trans (congrArg some (by kernel_rfl))
 f129 := Try.func85.trans (congrArg some (by kernel_rfl))
 f189 := Try.func52.trans (congrArg some (by kernel_rfl))
 f215 := Try.func88.trans (congrArg some (by kernel_rfl))
 f216 := Try.func81.trans (congrArg some (by kernel_rfl))
 f257 := Try.func63.trans (congrArg some (by kernel_rfl))
 f294 := Try.func75.trans (congrArg some (by kernel_rfl))
 f295 := Try.func76.trans (congrArg some (by kernel_rfl))
 f296 := Try.func77.trans (congrArg some (by kernel_rfl))
 f297 := Try.func78.trans (congrArg some (by kernel_rfl))
 f298 := Try.func79.trans (congrArg some (by kernel_rfl))
 f299 := Try.func80.trans (congrArg some (by kernel_rfl))
 f300 := Try.func82.trans (congrArg some (by kernel_rfl))
 f301 := Try.func83.trans (congrArg some (by kernel_rfl))
 f328 := Try.func89.trans (congrArg some (by kernel_rfl))
 f329 := Try.func90.trans (congrArg some (by kernel_rfl))
 f330 := Try.func91.trans (congrArg some (by kernel_rfl))
 f331 := Try.func92.trans (congrArg some (by kernel_rfl))
 f332 := Try.func93.trans (congrArg some (by kernel_rfl))
 f343 := Try.func94.trans (congrArg some (by kernel_rfl))
 t0 := Try.underlying0
 a0 := Try.isAgg0
 z0 := Try.sizeOf0
 v0 := Try.zeroValue0
 t3 := Try.underlying3
 a3 := Try.isAgg3
 z3 := Try.sizeOf3
 v3 := Try.zeroValue3
 t4 := Try.underlying4
 a4 := Try.isAgg4
 z4 := Try.sizeOf4
 v4 := Try.zeroValue4
 t5 := Try.underlying5
 a5 := Try.isAgg5
 z5 := Try.sizeOf5
 v5 := Try.zeroValue5
 t9 := Try.underlying9
 a9 := Try.isAgg9
 z9 := Try.sizeOf9
 v9 := Try.zeroValue9
 t28 := Try.underlying28
 a28 := Try.isAgg28
 z28 := Try.sizeOf28
 v28 := Try.zeroValue28
 t46 := Try.underlying106
 a46 := Try.isAgg106
 z46 := Try.sizeOf106
 v46 := Try.zeroValue106
 t51 := Try.underlying124
 a51 := Try.isAgg124
 z51 := Try.sizeOf124
 v51 := Try.zeroValue124
 t53 := Try.underlying126
 a53 := Try.isAgg126
 z53 := Try.sizeOf126
 v53 := Try.zeroValue126
 t131 := Try.underlying121
 a131 := Try.isAgg121
 z131 := Try.sizeOf121
 v131 := Try.zeroValue121
 t182 := Try.underlying116
 a182 := Try.isAgg116
 z182 := Try.sizeOf116
 v182 := Try.zeroValue116
 t183 := Try.underlying117
 a183 := Try.isAgg117
 z183 := Try.sizeOf117
 v183 := Try.zeroValue117
 t218 := Try.underlying130
 a218 := Try.isAgg130
 z218 := Try.sizeOf130
 v218 := Try.zeroValue130
 t222 := Try.underlying134
 a222 := Try.isAgg134
 z222 := Try.sizeOf134
 v222 := Try.zeroValue134
 t228 := Try.underlying136
 a228 := Try.isAgg136
 z228 := Try.sizeOf136
 v228 := Try.zeroValue136
 t229 := Try.underlying137
 a229 := Try.isAgg137
 z229 := Try.sizeOf137
 v229 := Try.zeroValue137 }
theorem chunks_int {w : World} {S : Nat → Prop} : ∀ {l : List Int} {xs : List Value}, Chunks i64R w S xs l ↔ (xs = l.map (Value.int .i64) ∧ ∀ x ∈ l, -9223372036854775808 ≤ x ∧ x ≤ 9223372036854775807)
 | [], xs => by simp [Chunks]
 | y :: l, xs => by
  constructor
  ·rintro ⟨cs, rest, rfl, ⟨rfl, hy⟩, h⟩
   obtain ⟨h1, h2⟩ := chunks_int.1 h
   refine ⟨by rw [h1]; rfl, fun x hx => ?_⟩
   rcases List.mem_cons.1 hx with rfl | hx
   ·exact hy
   ·exact h2 x hx
  ·rintro ⟨rfl, h⟩
   exact ⟨_, _, rfl, ⟨rfl, h y (by simp)⟩, chunks_int.2 ⟨rfl, fun x hx => h x (by simp [hx])⟩⟩
def sortedZ (l : List Int) : List Int := l.mergeSort fun x y => decide (x ≤ y)
theorem sortedZ_length (l : List Int) : (sortedZ l).length = l.length := List.length_mergeSort _
theorem sortedZ_mem {l : List Int} {a : Int} : a ∈ sortedZ l ↔ a ∈ l := List.mem_mergeSort
theorem sortedZ_lt {l : List Int} (h : l.Nodup) : (sortedZ l).Pairwise (· < ·) := by
 have h1 : (sortedZ l).Pairwise (fun a b => decide (a ≤ b) = true) := List.pairwise_mergeSort (fun a b c h1 h2 => by simp at h1 h2 ⊢; omega) (fun a b => by simp; omega) l
 have h2 : (sortedZ l).Nodup := (List.mergeSort_perm l _).nodup_iff.2 h
 exact (h1.and h2).imp fun {a b} ⟨h1, h2⟩ => by simp at h1; omega
theorem sortz_own {w : World} {base : Nat} {T : Nat → Prop} {A : Option Addr} {c : Nat} {l : List Int} (h : OwnS i64R w base 3 T (.slice A l.length c) l) (hlen : l.length < 4611686018427387904) :
  Calls Try.prog 52 #[.slice A l.length c] w fun e w' => e = .returned (.tuple #[]) ∧ OwnS i64R w' base 3 T (.slice A l.length c) (sortedZ l) ∧ w.grownBy w' (Value.slice A l.length c).ownBlock := by
 by_cases h0 : l = []
 ·subst h0
  refine (Any.slices_Sort_int_none Try.sort189 A c w).mono ?_
  rintro e w' ⟨rfl, rfl⟩
  have e0 : sortedZ [] = [] := by simp [sortedZ]
  rw [e0]
  exact ⟨rfl, h, (Ext.refl _).grownBy _⟩
 ·obtain ⟨xs, ho, hc⟩ := h
  obtain ⟨rfl, hlt⟩ := chunks_int.1 hc
  rcases ho.2 with ⟨hv, hn⟩ | ⟨g, cap, cur, hv, hg, hb, h1, h2, h3, h4⟩
  ·exact absurd (List.eq_nil_of_length_eq_zero hn) h0
  cases hv
  have h4' : cur.toList.take l.length = l.map (Value.int .i64) := by
   have : l.length * i64R.size = l.length := by simp [i64R]
   rw [this] at h4
   exact h4
  have hs := Any.slices_Sort_int Try.sort189 g 0 c l w (holds_of_blockI hb h4') (Array.getElem?_eq_some_iff.1 hb).1 hlen
  refine hs.mono ?_
  rintro e w' ⟨rfl, n, os, rfl⟩
  refine ⟨rfl, ⟨_, ?_, chunks_int.2 ⟨rfl, fun x hx => hlt x (sortedZ_mem.1 hx)⟩⟩, grownBy_sortedI _⟩
  have := ownsRow_sortedI (w := w) (base := base) (g := g) (cap := c) (n := n) (e := 3) (os := os) (cur := cur) (ss := l) (ts := sortedZ l) (by simp [sortedZ_length]) hg hb (by simpa using h1) h2 h3
  rw [sortedZ_length]
  exact this
end Go.Proofs.Ytlmipgdnlfjpaaa
