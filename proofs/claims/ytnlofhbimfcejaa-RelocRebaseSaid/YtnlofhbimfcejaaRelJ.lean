/- Chapter 7: object, small, the chapter's examples. -/
import Derived.Test.YtnlofhbimfcejaaRelH
import Derived.Test.YtnlofhbimfcejaaRelI
import Derived.Test.YtnlofhbimfcejaaStr
import Derived.Test.YtnlofhbimfcejaaLit
namespace Go.Proofs.Ytnlofhbimfcejaa
open Go.RowKit Go.Deco
set_option linter.unusedSimpArgs false
set_option linter.unusedVariables false

def exOb (f : Int) : Ob := ⟨0, [⟨⟨#[115]⟩, 4096, [1, 2, 3, 4, 5, 6, 7, 8], false, false⟩], [⟨⟨#[120]⟩, 8192, 2⟩], [⟨0, f, 1, ⟨#[120]⟩, 0⟩]⟩
def ObIs (w : World) (o : Ob) (e : Ending) (w' : World) : Prop :=
  ∃ (As Ay Ar : Option Addr) (hi : Nat), e = .returned (.agg #[.int .u32 0, .slice As 1 1, .slice Ay 1 1, .slice Ar 1 1]) ∧ Ext w w' ∧ Sl secR w' (fun b => b < hi) (.slice As 1 1) o.secs ∧ Sl symR w' (fun b => b < hi) (.slice Ay 1 1) o.syms ∧ OwnS relR w' hi 36 All (.slice Ar 1 1) o.rels ∧ w.heap.size ≤ hi

set_option maxRecDepth 100000 in
set_option maxHeartbeats 1000000 in
theorem object_any (w : World) (f : Nat) (hf : f ≤ 100) : Calls Try.prog 27 #[.int .i64 f] w (ObIs w (exOb f)) := by
  obtain ⟨V1, hV1⟩ : ∃ V, w.alloc (.cells #[.int .u32 0, .slice none 0 0, .slice none 0 0, .slice none 0 0] 27) = V := ⟨_, rfl⟩
  obtain ⟨V2, hV2⟩ : ∃ V, V1.alloc (.cells #[.int .u8 1, .int .u8 2, .int .u8 3, .int .u8 4, .int .u8 5, .int .u8 6, .int .u8 7, .int .u8 8] 5) = V := ⟨_, rfl⟩
  obtain ⟨V3, hV3⟩ : ∃ V, V2.alloc (.cells #[.string ⟨#[115]⟩, .int .u32 4096, .slice (some ⟨w.heap.size + 1, 0, none⟩) 8 8, .bool false, .bool false] 46) = V := ⟨_, rfl⟩
  obtain ⟨V4, hV4⟩ : ∃ V, V3.alloc (.cells #[.string ⟨#[120]⟩, .int .u32 8192, .int .i64 2] 68) = V := ⟨_, rfl⟩
  obtain ⟨V5, hV5⟩ : ∃ V, V4.alloc (.cells #[.int .i64 0, .int .i64 f, .int .i64 1, .string ⟨#[120]⟩, .int .i32 0] 36) = V := ⟨_, rfl⟩
  have z1 : V1.heap.size = w.heap.size + 1 := by rw [← hV1]; simp
  have z2 : V2.heap.size = w.heap.size + 2 := by rw [← hV2]; simp [z1]
  have z3 : V3.heap.size = w.heap.size + 3 := by rw [← hV3]; simp [z2]
  have z4 : V4.heap.size = w.heap.size + 4 := by rw [← hV4]; simp [z3]
  have x1 : Ext w V1 := by rw [← hV1]; exact (Ext.refl w).alloc _
  have x2 : Ext V1 V2 := by rw [← hV2]; exact (Ext.refl V1).alloc _
  have x3 : Ext V2 V3 := by rw [← hV3]; exact (Ext.refl V2).alloc _
  have x4 : Ext V3 V4 := by rw [← hV4]; exact (Ext.refl V3).alloc _
  have x5 : Ext V4 V5 := by rw [← hV5]; exact (Ext.refl V4).alloc _
  have d2 : Sl u8R V2 (fun b => w.heap.size < b ∧ b < w.heap.size + 4) (.slice (some ⟨w.heap.size + 1, 0, none⟩) 8 8) [1, 2, 3, 4, 5, 6, 7, 8] := by
    rw [← hV2, ← z1]
    exact sl_of_chunks (R := u8R) (l := [1, 2, 3, 4, 5, 6, 7, 8]) (c := 8) (xs := [.int .u8 1, .int .u8 2, .int .u8 3, .int .u8 4, .int .u8 5, .int .u8 6, .int .u8 7, .int .u8 8]) (by show w.heap.size < V1.heap.size ∧ V1.heap.size < w.heap.size + 4; omega) (chunks_num.2 ⟨by simp, by decide⟩) (fun j u hu => by simpa using hu) (by simp) (by simp [maxLen])
  have d3 : Sl secR V3 (fun b => w.heap.size < b ∧ b < w.heap.size + 4) (.slice (some ⟨w.heap.size + 2, 0, none⟩) 1 1) (exOb f).secs := by
    have hx := x3
    rw [← hV3] at hx ⊢
    rw [← z2]
    exact sl_of_chunks (R := secR) (l := (exOb f).secs) (c := 1) (xs := [.string ⟨#[115]⟩, .int .u32 4096, .slice (some ⟨w.heap.size + 1, 0, none⟩) 8 8, .bool false, .bool false]) (by show w.heap.size < V2.heap.size ∧ V2.heap.size < w.heap.size + 4; omega) (Chunks.single ⟨_, rfl, d2.ext hx, by show (4096 : Nat) < _; omega, by show (⟨#[115]⟩ : ByteArray).size ≤ _; decide⟩) (fun j u hu => by simpa using hu) (by simp [exOb]) (by simp [maxLen])
  have d4 : Sl symR V4 (fun b => w.heap.size < b ∧ b < w.heap.size + 4) (.slice (some ⟨w.heap.size + 3, 0, none⟩) 1 1) (exOb f).syms := by
    rw [← hV4, ← z3]
    exact sl_of_chunks (R := symR) (l := (exOb f).syms) (c := 1) (xs := [.string ⟨#[120]⟩, .int .u32 8192, .int .i64 2]) (by show w.heap.size < V3.heap.size ∧ V3.heap.size < w.heap.size + 4; omega) (Chunks.single ⟨rfl, by show (8192 : Nat) < _; omega, by show (⟨#[120]⟩ : ByteArray).size ≤ _; decide, by show (-9223372036854775808 : Int) ≤ 2; omega, by show (2 : Int) ≤ 9223372036854775807; omega⟩) (fun j u hu => by simpa using hu) (by simp [exOb]) (by simp [maxLen])
  have d5 : OwnS relR V5 (w.heap.size + 4) 36 All (.slice (some ⟨w.heap.size + 4, 0, none⟩) 1 1) (exOb f).rels := by
    rw [← hV5, ← z4]
    refine ⟨_, ⟨by simp [exOb, relR]; rfl, .inr ⟨_, 1, _, rfl, by omega, heap_alloc_new V4 _, by simp [exOb], by simp [maxLen], by simp [relR], ?_⟩⟩, relP.chunks.2 ⟨rfl, fun e he => ?_⟩⟩
    · simp [exOb, relR, relP, relCells]
    · simp [exOb] at he
      subst he
      show ((-9223372036854775808 : Int) ≤ 0 ∧ (0 : Int) ≤ 9223372036854775807) ∧ ((-9223372036854775808 : Int) ≤ (f : Int) ∧ (f : Int) ≤ 9223372036854775807) ∧ ((-9223372036854775808 : Int) ≤ 1 ∧ (1 : Int) ≤ 9223372036854775807) ∧ (⟨#[120]⟩ : ByteArray).size ≤ maxLen ∧ ((-2147483648 : Int) ≤ 0 ∧ (0 : Int) ≤ 2147483647)
      exact ⟨by omega, by omega, by omega, by simp [maxLen, ByteArray.size], by omega⟩
  have hB : Box4 V5 w.heap.size (.int .u32 0) (.slice none 0 0) (.slice none 0 0) (.slice none 0 0) := by
    have h1 : Box4 V1 w.heap.size (.int .u32 0) (.slice none 0 0) (.slice none 0 0) (.slice none 0 0) := by rw [← hV1]; exact Box4.new w _ _ _ _ _
    exact h1.ext (x2.trans (x3.trans (x4.trans x5)))
  obtain ⟨q0, q1, q2, q3, qf⟩ := hB
  have HD3 := hid (d3.ext (x4.trans x5))
  have HD4 := hid (d4.ext x5)
  have HD5 := hid d5
  have HX5 := hid (x1.trans (x2.trans (x3.trans (x4.trans x5))))
  have hne : w.heap.size + 4 < V5.heap.size := by rw [← hV5]; simp [z4]
  clear x1 x2 x3 x4 x5 d2 d3 d4 d5
  go_enter Try.func27, Try.ntmps27
  go_wp2
  refine bodyPost_ret (v := .agg #[.int .u32 0, .slice (some ⟨w.heap.size + 2, 0, none⟩) 1 1, .slice (some ⟨w.heap.size + 3, 0, none⟩) 1 1, .slice (some ⟨w.heap.size + 4, 0, none⟩) 1 1]) (by simp [results, Try.results27, go_sem, World.cell?_setCell_same, World.cell?_setCell_other, q0, q1, q2, q3]) rfl ?_
  refine ⟨_, _, _, w.heap.size + 4, rfl, ?_, ?_, ?_, ?_, by omega⟩
  · exact (((HX5.out.setCell (by simp) _).setCell (by simp) _).setCell (by simp) _).setCell (by simp) _
  · refine Sl.mono (fun b hb _ => hb.2) (HD3.out.keep fun b hb _ => ?_)
    rw [Below.heap_setCell _ _ _ _ (by simp; omega), Below.heap_setCell _ _ _ _ (by simp; omega), Below.heap_setCell _ _ _ _ (by simp; omega), Below.heap_setCell _ _ _ _ (by simp; omega)]
  · refine Sl.mono (fun b hb _ => hb.2) (HD4.out.keep fun b hb _ => ?_)
    rw [Below.heap_setCell _ _ _ _ (by simp; omega), Below.heap_setCell _ _ _ _ (by simp; omega), Below.heap_setCell _ _ _ _ (by simp; omega), Below.heap_setCell _ _ _ _ (by simp; omega)]
  · have hfar : (Value.slice (some ⟨w.heap.size + 4, 0, none⟩) 1 1).ownBlock ≠ some w.heap.size := by simp [Value.ownBlock]
    exact relP.anyT (((((relP.anyT HD5.out (fun _ => False)).set_far hfar (fun _ h => h.elim)).set_far hfar (fun _ h => h.elim)).set_far hfar (fun _ h => h.elim)).set_far hfar (fun _ h => h.elim)) All

def SmallIs (w : World) (ns ny nr : Nat) (e : Ending) (w' : World) : Prop := (∃ b, e = .returned (.bool b) ∧ (b = true → ns ≤ 20 ∧ ny ≤ 300 ∧ nr ≤ 300)) ∧ Ext w w'
set_option maxRecDepth 100000 in
set_option maxHeartbeats 1000000 in
theorem small_any (w : World) (o : Ob) (As Ay Ar : Option Addr) (ns cs ny cy nr cr : Nat) (hs : Sl secR w All (.slice As ns cs) o.secs) (hyc : ny ≤ cy ∧ cy ≤ 9223372036854775807) (hrc : nr ≤ cr ∧ cr ≤ 9223372036854775807) :
    Calls Try.prog 10 #[.agg #[.int .u32 o.entry, .slice As ns cs, .slice Ay ny cy, .slice Ar nr cr]] w (SmallIs w ns ny nr) := by
  obtain ⟨en, hen⟩ : ∃ en, o.entry = en := ⟨_, rfl⟩
  rw [hen]
  have hsc := hs.cap
  obtain ⟨W0, hW0⟩ : ∃ W0, w.alloc (.cells #[.int .u32 en, .slice As ns cs, .slice Ay ny cy, .slice Ar nr cr] 27) = W0 := ⟨_, rfl⟩
  have hE0 : Ext w W0 := by rw [← hW0]; exact (Ext.refl w).alloc _
  have o1 : W0.cell? ⟨w.heap.size, 1, none⟩ = some (.slice As ns cs) := by rw [← hW0]; simp [go_sem]
  have o2 : W0.cell? ⟨w.heap.size, 2, none⟩ = some (.slice Ay ny cy) := by rw [← hW0]; simp [go_sem]
  have o3 : W0.cell? ⟨w.heap.size, 3, none⟩ = some (.slice Ar nr cr) := by rw [← hW0]; simp [go_sem]
  have HE0 := hid hE0
  have HS := hid (hs.ext hE0)
  have HLS := hid hs.len
  clear hen hE0 hs
  by_cases h : ns ≤ 20 ∧ ny ≤ 300 ∧ nr ≤ 300
  · obtain ⟨h1, h2, h3⟩ := h
    go_enter Try.func10, Try.ntmps10
    go_wp2
    clear hW0
    go_loop [3] (fun i => ∃ k : Nat, k ≤ ns ∧ i = .int .i64 k) (fun i => ns - (intOf i).toNat)
    case atStart => exact ⟨0, by omega, rfl⟩
    case round =>
      obtain ⟨k, hk, rfl⟩ := hrel
      by_cases h4 : k < ns
      · obtain ⟨s, hs⟩ : ∃ s, o.secs[k]? = some s := ⟨_, List.getElem?_eq_getElem (by have := HLS.out; omega)⟩
        obtain ⟨b, o5, dA, dc, rfl, -, hdl, -, -, -, -, c2, -, -⟩ := HS.out.sec_at hs
        clear hs
        by_cases h5 : 400 < s.data.length
        · go_wp2
          go_ret
          exact ⟨⟨_, rfl, by simp⟩, HE0.out⟩
        · go_wp2
          first
            | go_round
            | refine ⟨?rel, ?measure⟩
          case rel => exact ⟨k + 1, by omega, by go_num⟩
          case measure => simp [intOf]; omega
      · obtain rfl : k = ns := by omega
        go_wp2
        go_ret
        exact ⟨⟨_, rfl, fun _ => ⟨h1, h2, h3⟩⟩, HE0.out⟩
  · by_cases h1 : ns ≤ 20
    · by_cases h2 : ny ≤ 300
      · have h3 : ¬ nr ≤ 300 := fun h3 => h ⟨h1, h2, h3⟩
        clear h
        go_enter Try.func10, Try.ntmps10
        go_wp2
        go_ret
        exact ⟨⟨_, rfl, by simp⟩, HE0.out⟩
      · clear h
        go_enter Try.func10, Try.ntmps10
        go_wp2
        go_ret
        exact ⟨⟨_, rfl, by simp⟩, HE0.out⟩
    · clear h
      go_enter Try.func10, Try.ntmps10
      go_wp2
      go_ret
      exact ⟨⟨_, rfl, by simp⟩, HE0.out⟩
end Go.Proofs.Ytnlofhbimfcejaa
