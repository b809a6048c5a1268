/- slices.Delete of one element at []uint32: the shelf's contract laid at this program. -/
import Derived.Test.YtcddmggefmfkkaaU32A
import Derived.Test.YtcddmggefmfkkaaSrtH
import Derived.Shelf.SlicesE.Delete
import Derived.Ground.SlgnProg
namespace Go.Proofs.Ytcddmggefmfkkaa
open Go.RowKit Go.Deco Go.Shelf Go.Sort
set_option linter.unusedVariables false

def Try.dl32_ren : Go.Shelf.Ren := ⟨fun | 45 => 41 | n => n, fun | 22 => 23 | 23 => 36 | 3 => 3 | 4 => 4 | 0 => 0 | n => n, fun n => n⟩
theorem Try.dl32 : SlLaysE.n45 Try.prog Try.dl32_ren := {
  mixed := by kernel_rfl
  f45 := ⟨Try.f41.name, by decide, Try.func41.trans (congrArg some (by kernel_rfl))⟩
  t0 := Try.underlying0
  a0 := Try.isAgg0
  z0 := Try.sizeOf0
  v0 := Try.zeroValue0
  t3 := Try.underlying3
  a3 := Try.isAgg3
  z3 := Try.sizeOf3
  v3 := Try.zeroValue3
  t4 := Try.underlying4
  a4 := Try.isAgg4
  z4 := Try.sizeOf4
  v4 := Try.zeroValue4
  t22 := Try.underlying23
  a22 := Try.isAgg23
  z22 := Try.sizeOf23
  v22 := Try.zeroValue23
  a23 := Try.isAgg36
  z23 := Try.sizeOf36 }
noncomputable def u32Info : TypeInfo := (Try.prog.info? 36).get (by kernel_rfl)
theorem dl32_eq : Try.dl32_ren.f 45 = 41 := rfl
theorem map_int_list (a b : List Nat) : (a.map (fun x : Nat => (x : Int))) ++ (b.map (fun x : Nat => (x : Int))) = (a ++ b).map (fun x : Nat => (x : Int)) := (List.map_append ..).symm

theorem delete32_any {w : World} {base : Nat} {T : Nat → Prop} {A : Option Addr} {c : Nat} {l : List Nat} (h : OwnS u32R w base 36 T (.slice A l.length c) l) (hc : c ≤ 9223372036854775807) (k : Nat) (hk : k < l.length) :
    Calls Try.prog 41 #[.slice A l.length c, .int .i64 k, .int .i64 (k + 1 : Nat)] w fun e w' => e = .returned (.slice A (l.eraseIdx k).length c) ∧ OwnS u32R w' base 36 T (.slice A (l.eraseIdx k).length c) (l.eraseIdx k) ∧ w.grownBy w' (Value.slice A l.length c).ownBlock := by
  obtain ⟨xs, ho, hch⟩ := h
  obtain ⟨rfl, hlt⟩ := chunks_num.1 hch
  rcases ho.2 with ⟨hv, hn⟩ | ⟨g, cap, cur, hv, hg, hb, h1, h2, h3, h4⟩
  · omega
  cases hv
  have h4' : cur.toList.take (l.map (fun x : Nat => (x : Int))).length = (l.map (fun x : Nat => (x : Int))).map encU := by
    rw [List.length_map, List.map_map]
    have : l.length * (numR .u32 4294967296).size = l.length := by simp [numR]
    rw [this] at h4
    exact h4
  have hs := AnyE.slices_Delete Try.dl32 encU (fun _ => rfl) 0 zero_u32 u32Info (by kernel_rfl) (by kernel_rfl) g 0 c k (k + 1) (l.map (fun x : Nat => (x : Int))).toArray w (holds_of_blockU hb h4') (by simpa using h1) hc (by omega) (by simp; omega)
  have e0 : (l.map (fun x : Nat => (x : Int))).toArray.size = l.length := by simp
  rw [e0, dl32_eq] at hs
  have hel : (l.eraseIdx k).length = l.length - 1 := List.length_eraseIdx_of_lt hk
  have e1 : (l.map (fun x : Nat => (x : Int))).toArray.toList.take k ++ (l.map (fun x : Nat => (x : Int))).toArray.toList.drop (k + 1) ++ List.replicate (k + 1 - k) (0 : Int) = (l.eraseIdx k ++ [0]).map (fun x : Nat => (x : Int)) := by
    rw [List.eraseIdx_eq_take_drop_succ, show k + 1 - k = 1 by omega, List.map_append, List.map_append, List.map_take, List.map_drop]
    rfl
  rw [e1] at hs
  refine hs.mono ?_
  rintro e w' ⟨rfl, q, rfl⟩
  have e2 : l.length - (k + 1 - k) = (l.eraseIdx k).length := by omega
  rw [e2]
  have hgr := grownBy_sortedU (w := w) (g := g) (n := q) (os := #[]) ((l.eraseIdx k ++ [0]).map (fun x : Nat => (x : Int))).toArray
  have hrow := ownsRow_sortedU (w := w) (base := base) (g := g) (cap := c) (n := q) (e := 36) (os := #[]) (cur := cur) (ss := l.map (fun x : Nat => (x : Int))) (ts := (l.eraseIdx k ++ [0]).map (fun x : Nat => (x : Int))) (by simp; omega) hg hb (by simpa using h1) h2 h3
  have hgw : ∀ W : World, grow W #[] = W := fun W => by simp [grow]
  rw [hgw] at hgr hrow
  refine ⟨rfl, ?_, hgr⟩
  have hO : OwnS u32R (putRow encU (Sort.ahead w q) g 0 ((l.eraseIdx k ++ [0]).map (fun x : Nat => (x : Int))).toArray) base 36 T (.slice (some ⟨g, 0, none⟩) l.length c) (l.eraseIdx k ++ [0]) := by
    refine ⟨(l.eraseIdx k ++ [0]).map (fun x : Nat => Value.int .u32 x), ?_, chunks_num.2 ⟨rfl, fun x hx => ?_⟩⟩
    · have e3 : (l.eraseIdx k ++ [0]).length = l.length := by simp; omega
      rw [List.length_map, List.map_map] at hrow
      rw [e3]
      exact hrow
    · rcases List.mem_append.1 hx with hx | hx
      · exact hlt x (List.mem_of_mem_eraseIdx hx)
      · simp at hx
        omega
  have hT := own_take hO (k := (l.eraseIdx k).length) (by omega) (by omega)
  rw [List.take_left] at hT
  exact hT
end Go.Proofs.Ytcddmggefmfkkaa
