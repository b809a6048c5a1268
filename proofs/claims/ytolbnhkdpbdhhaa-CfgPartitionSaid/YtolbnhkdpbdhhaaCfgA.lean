/- cfg.collect. -/
import Derived.Test.YtolbnhkdpbdhhaaIsaA
import Derived.Test.YtolbnhkdpbdhhaaCfgL
import Derived.Test.YtolbnhkdpbdhhaaApp
namespace Go.Proofs.Ytolbnhkdpbdhhaa
open Go.RowKit Go.Deco
set_option linter.unusedSimpArgs false
set_option linter.unusedVariables false

def insF (l : List In) (a : Nat) : Option Value := (firstIn l a).map inV
theorem zero_in (w : World) : (zeroValue 61).run Try.prog w = .ok (inV In.zero) w := by kernel_rfl
theorem Sl.in_at {w : World} {S : Nat → Prop} {A : Option Addr} {n c k : Nat} {l : List In} {i : In} (h : Sl insR w S (.slice A n c) l) (hk : l[k]? = some i) :
    ∃ b off, A = some ⟨b, off, none⟩ ∧ InOk i ∧ w.cell? ⟨b, off + k * 9, none⟩ = some (.int .u32 i.addr) ∧ w.cell? ⟨b, off + k * 9 + 1, none⟩ = some (.int .u32 i.imm) ∧ w.cell? ⟨b, off + k * 9 + 2, none⟩ = some (.int .i64 i.op) ∧ w.cell? ⟨b, off + k * 9 + 3, none⟩ = some (.int .i64 i.form) ∧
      w.cell? ⟨b, off + k * 9 + 4, none⟩ = some (.int .i64 i.width) ∧ w.cell? ⟨b, off + k * 9 + 5, none⟩ = some (.int .i64 i.cc) ∧ w.cell? ⟨b, off + k * 9 + 6, none⟩ = some (.int .i64 i.a) ∧ w.cell? ⟨b, off + k * 9 + 7, none⟩ = some (.int .i64 i.b) ∧ w.cell? ⟨b, off + k * 9 + 8, none⟩ = some (.int .i64 i.size) := by
  obtain ⟨b, off, cs, hA, ⟨hcs, h1⟩, hc⟩ := h.get hk
  subst hcs
  exact ⟨b, off, hA, h1, by simpa [insR] using hc 0 _ rfl, hc 1 _ rfl, hc 2 _ rfl, hc 3 _ rfl, hc 4 _ rfl, hc 5 _ rfl, hc 6 _ rfl, hc 7 _ rfl, hc 8 _ rfl⟩

theorem grown17 {a b c : World} {g : Nat} (h : a.grownBy b (some g)) (k : b.grownBy c (some g)) : a.grownBy c (some g) :=
  ⟨k.os.trans h.os, k.tape.trans h.tape, k.output.trans h.output, Nat.le_trans h.size k.size, fun i hi hne => (k.block i (Nat.lt_of_lt_of_le hi h.size) hne).trans (h.block i hi hne)⟩
/-- The code collected: a map of the first instructions. -/
def CollIs (w : World) (ins : List In) (T Q : Value) (e : Ending) (w' : World) : Prop :=
  Ext w w' ∧ ∃ b q, e = .returned (.agg #[.map (some b), T, Q]) ∧ w.heap.size ≤ b ∧ MapG (u32K Try.underlying39) w' b q (insF ins) ∧ q ≤ ins.length

set_option maxRecDepth 100000 in
set_option maxHeartbeats 4000000 in
theorem collect_any (w : World) (A E U B T Q : Option Addr) (n c ne ce nu cu nb cb nt ct nq cq : Nat) (ins : List In) (hi : Sl insR w All (.slice A n c) ins) (hn : n ≤ 1000) :
    Calls Try.prog 27 #[.agg #[.slice A n c, .slice E ne ce, .slice U nu cu, .slice B nb cb], .slice T nt ct, .slice Q nq cq] w (CollIs w ins (.slice T nt ct) (.slice Q nq cq)) := by
  have hmm := @run_makeMap Try.prog
  have HLN := hid hi.len
  have hcap := hi.cap
  obtain ⟨sz, hsz⟩ : ∃ sz, w.heap.size = sz := ⟨_, rfl⟩
  obtain ⟨W0, hW0⟩ : ∃ W0, (((w.alloc (.cells #[.slice A n c, .slice E ne ce, .slice U nu cu, .slice B nb cb] 25)).alloc (.cells #[.map none, .slice none 0 0, .slice none 0 0] 65)).alloc (.map #[] 0)).alloc (.cells #[.map (some (sz + 2)), .slice T nt ct, .slice Q nq cq] 65) = W0 := ⟨_, rfl⟩
  have hE : Ext w W0 := by rw [← hW0]; exact ((((Ext.refl w).alloc _).alloc _).alloc _).alloc _
  have x0 : W0.cell? ⟨sz, 0, none⟩ = some (.slice A n c) := by rw [← hW0, ← hsz]; simp [go_sem]
  have m0 : W0.cell? ⟨sz + 3, 0, none⟩ = some (.map (some (sz + 2))) := by rw [← hW0, ← hsz]; simp [go_sem]
  have m1 : W0.cell? ⟨sz + 3, 1, none⟩ = some (.slice T nt ct) := by rw [← hW0, ← hsz]; simp [go_sem]
  have m2 : W0.cell? ⟨sz + 3, 2, none⟩ = some (.slice Q nq cq) := by rw [← hW0, ← hsz]; simp [go_sem]
  have z0 : W0.cell? ⟨sz + 1, 0, none⟩ = some (.map none) := by rw [← hW0, ← hsz]; simp [go_sem]
  have z1 : W0.cell? ⟨sz + 1, 1, none⟩ = some (.slice none 0 0) := by rw [← hW0, ← hsz]; simp [go_sem]
  have z2 : W0.cell? ⟨sz + 1, 2, none⟩ = some (.slice none 0 0) := by rw [← hW0, ← hsz]; simp [go_sem]
  have zf : ∀ j, W0.frozen? ⟨sz + 1, j, none⟩ = false := fun j => by rw [← hW0, ← hsz]; simp [go_sem]
  have hm : MapG (u32K Try.underlying39) W0 (sz + 2) 0 (insF []) := by
    rw [← hW0]
    have h := MapG.made (u32K Try.underlying39) ((w.alloc (.cells #[.slice A n c, .slice E ne ce, .slice U nu cu, .slice B nb cb] 25)).alloc (.cells #[.map none, .slice none 0 0, .slice none 0 0] 65))
    have e : ((w.alloc (.cells #[.slice A n c, .slice E ne ce, .slice U nu cu, .slice B nb cb] 25)).alloc (.cells #[.map none, .slice none 0 0, .slice none 0 0] 65)).heap.size = sz + 2 := by simp [hsz]
    rw [e] at h
    exact (h.same (f' := insF []) fun x => rfl).ext ((Ext.refl _).alloc _)
  have HM0 := hid hm
  have HE := hid hE
  have HI := hid (hi.ext hE)
  clear hE hm hi
  go_enter Try.func27, Try.ntmps27
  go_wp2
  clear hW0 hmm
  go_loopw [19] (fun i wr => ∃ (k q : Nat), k ≤ n ∧ i = .int .i64 k ∧ q ≤ k ∧ Hid (MapG (u32K Try.underlying39) wr (sz + 2) q (insF (ins.take k))) ∧ Hid (W0.grownBy wr (some (sz + 2)))) (fun i _ => n - (intOf i).toNat)
  case atStart => exact ⟨0, 0, by omega, rfl, by omega, HM0, hid (World.grownBy.refl _ _)⟩
  case round =>
    obtain ⟨k, q, hk, rfl, hqk, HM, HG⟩ := hrel
    have x0' := HM0.out.cell HG.out x0
    have m0' := HM0.out.cell HG.out m0
    have HX := hid (HE.out.grown HG.out (fun j hj => by cases hj; omega))
    by_cases h1 : k < n
    · have HK := hid h1
      obtain ⟨i, hki⟩ : ∃ i, ins[k]? = some i := ⟨_, List.getElem?_eq_getElem (by have := HLN.out; omega)⟩
      obtain ⟨b, off, rfl, hok, a0, a1, a2, a3, a4, a5, a6, a7, a8⟩ := Sl.in_at (HM0.out.sl HG.out HI.out) hki
      have HKI := hid hki
      have HOK := hid hok
      clear hki hok
      obtain ⟨W1, hW1⟩ : ∃ W1, wr.alloc (.cells #[.int .u32 i.addr, .int .u32 i.imm, .int .i64 i.op, .int .i64 i.form, .int .i64 i.width, .int .i64 i.cc, .int .i64 i.a, .int .i64 i.b, .int .i64 i.size] 61) = W1 := ⟨_, rfl⟩
      have hE1 : Ext wr W1 := by rw [← hW1]; exact (Ext.refl wr).alloc _
      have hB1 : Box9 W1 wr.heap.size i := by rw [← hW1]; exact Box9.new wr i _
      have HE1 := hid hE1
      have HM1 := hid (HM.out.ext hE1)
      obtain ⟨c0, c1, c2, c3, c4, c5, c6, c7, c8⟩ := hB1
      have m0'' := hE1.cell m0'
      clear hE1
      obtain ⟨x, hx⟩ : ∃ x, firstIn (ins.take k) i.addr = x := ⟨_, rfl⟩
      have HXF := hid hx
      cases x with
      | some x =>
        have hf1 : (insF (ins.take k) i.addr).getD (inV In.zero) = .agg #[.int .u32 x.addr, .int .u32 x.imm, .int .i64 x.op, .int .i64 x.form, .int .i64 x.width, .int .i64 x.cc, .int .i64 x.a, .int .i64 x.b, .int .i64 x.size] := by unfold insF; rw [hx]; rfl
        have hf2 : (insF (ins.take k) i.addr).isSome = true := by unfold insF; rw [hx]; rfl
        have HF1 := hid hf1
        have HF2 := hid hf2
        clear hf1 hf2 hx
        go_wp2_with (first
          | (at_lookup; refine wpList_lookOk _ rfl (.tmp 25) (.tmp 27) 63 rfl 61 Try.underlying63 (inV In.zero) (zero_in _) (u32K Try.underlying39) (sz + 2) q (insF (ins.take k)) rfl HM1.out i.addr rfl HOK.out.1 _ HF1.out true HF2.out ?_)
          | fail)
        first
          | go_roundw
          | refine ⟨?rel, ?measure⟩
        case rel =>
          refine ⟨k + 1, q, by omega, by go_num, by omega, hid ((HM1.out.ext ((Ext.refl _).alloc _)).same fun a => ?_), hid (grown17 HG.out ((HE1.out.alloc _).grownBy _))⟩
          unfold insF
          rw [firstIn_snoc_old HKI.out HXF.out]
        case measure => simp [intOf]; omega
      | none =>
        have hf1 : (insF (ins.take k) i.addr).getD (inV In.zero) = .agg #[.int .u32 0, .int .u32 0, .int .i64 0, .int .i64 0, .int .i64 0, .int .i64 0, .int .i64 0, .int .i64 0, .int .i64 0] := by unfold insF; rw [hx]; rfl
        have hf2 : (insF (ins.take k) i.addr).isSome = false := by unfold insF; rw [hx]; rfl
        have HF1 := hid hf1
        have HF2 := hid hf2
        obtain ⟨W2, hW2⟩ : ∃ W2, W1.alloc (.cells #[.int .u32 0, .int .u32 0, .int .i64 0, .int .i64 0, .int .i64 0, .int .i64 0, .int .i64 0, .int .i64 0, .int .i64 0] 61) = W2 := ⟨_, rfl⟩
        have hE2 : Ext W1 W2 := by rw [← hW2]; exact (Ext.refl W1).alloc _
        have m2'' := hE2.cell m0''
        have d0 := hE2.cell c0
        have d1 := hE2.cell c1
        have d2 := hE2.cell c2
        have d3 := hE2.cell c3
        have d4 := hE2.cell c4
        have d5 := hE2.cell c5
        have d6 := hE2.cell c6
        have d7 := hE2.cell c7
        have d8 := hE2.cell c8
        have hq0 : W2.setCell ⟨W1.heap.size, 0, none⟩ (.int .u32 0) = W2 := by rw [← hW2]; simp [go_sem]
        have hq1 : W2.setCell ⟨W1.heap.size, 1, none⟩ (.int .u32 0) = W2 := by rw [← hW2]; simp [go_sem]
        have hq2 : W2.setCell ⟨W1.heap.size, 2, none⟩ (.int .i64 0) = W2 := by rw [← hW2]; simp [go_sem]
        have hq3 : W2.setCell ⟨W1.heap.size, 3, none⟩ (.int .i64 0) = W2 := by rw [← hW2]; simp [go_sem]
        have hq4 : W2.setCell ⟨W1.heap.size, 4, none⟩ (.int .i64 0) = W2 := by rw [← hW2]; simp [go_sem]
        have hq5 : W2.setCell ⟨W1.heap.size, 5, none⟩ (.int .i64 0) = W2 := by rw [← hW2]; simp [go_sem]
        have hq6 : W2.setCell ⟨W1.heap.size, 6, none⟩ (.int .i64 0) = W2 := by rw [← hW2]; simp [go_sem]
        have hq7 : W2.setCell ⟨W1.heap.size, 7, none⟩ (.int .i64 0) = W2 := by rw [← hW2]; simp [go_sem]
        have hq8 : W2.setCell ⟨W1.heap.size, 8, none⟩ (.int .i64 0) = W2 := by rw [← hW2]; simp [go_sem]
        have ez0 : W2.cell? ⟨W1.heap.size, 0, none⟩ = some (.int .u32 0) := by rw [← hW2]; simp [go_sem]
        have ez1 : W2.cell? ⟨W1.heap.size, 1, none⟩ = some (.int .u32 0) := by rw [← hW2]; simp [go_sem]
        have ez2 : W2.cell? ⟨W1.heap.size, 2, none⟩ = some (.int .i64 0) := by rw [← hW2]; simp [go_sem]
        have ez3 : W2.cell? ⟨W1.heap.size, 3, none⟩ = some (.int .i64 0) := by rw [← hW2]; simp [go_sem]
        have ez4 : W2.cell? ⟨W1.heap.size, 4, none⟩ = some (.int .i64 0) := by rw [← hW2]; simp [go_sem]
        have ez5 : W2.cell? ⟨W1.heap.size, 5, none⟩ = some (.int .i64 0) := by rw [← hW2]; simp [go_sem]
        have ez6 : W2.cell? ⟨W1.heap.size, 6, none⟩ = some (.int .i64 0) := by rw [← hW2]; simp [go_sem]
        have ez7 : W2.cell? ⟨W1.heap.size, 7, none⟩ = some (.int .i64 0) := by rw [← hW2]; simp [go_sem]
        have ez8 : W2.cell? ⟨W1.heap.size, 8, none⟩ = some (.int .i64 0) := by rw [← hW2]; simp [go_sem]
        have ezf : ∀ j, W2.frozen? ⟨W1.heap.size, j, none⟩ = false := fun j => by rw [← hW2]; simp [go_sem]
        have HM2z := hid (HM1.out.ext hE2)
        have HE2 := hid hE2
        clear hf1 hf2 hx hE2
        go_wp2_with (first
          | (at_lookup; refine wpList_lookOk _ rfl (.tmp 25) (.tmp 27) 63 rfl 61 Try.underlying63 (inV In.zero) (zero_in _) (u32K Try.underlying39) (sz + 2) q (insF (ins.take k)) rfl HM1.out i.addr rfl HOK.out.1 _ HF1.out false HF2.out ?_)
          | (at_mapUpdate; refine wpList_put _ rfl (.tmp 34) (.tmp 36) (.tmp 37) 63 rfl 61 Try.underlying63 (u32K Try.underlying39) (sz + 2) q (insF (ins.take k)) rfl HM2z.out (by unfold maxLen; omega) i.addr rfl HOK.out.1 (.agg #[.int .u32 i.addr, .int .u32 i.imm, .int .i64 i.op, .int .i64 i.form, .int .i64 i.width, .int .i64 i.cc, .int .i64 i.a, .int .i64 i.b, .int .i64 i.size]) rfl ?_; intro w1 hm1 hg1; have HM2 := hid hm1; have HG2 := hid hg1; clear hm1 hg1)
          | fail)
        first
          | go_roundw
          | refine ⟨?rel, ?measure⟩
        case rel =>
          refine ⟨k + 1, q + 1, by omega, by go_num, by omega, hid (HM2.out.same fun a => ?_), hid (grown17 (grown17 HG.out ((HE1.out.trans HE2.out).grownBy _)) HG2.out)⟩
          unfold insF
          rw [firstIn_snoc_new HKI.out HXF.out]
          by_cases e : a = i.addr <;> simp [e, inV]
        case measure => simp [intOf]; omega
    · obtain rfl : k = n := by omega
      have hmf := HM.out
      rw [List.take_of_length_le (by have := HLN.out; omega)] at hmf
      have m0' := HM0.out.cell HG.out m0
      have m1' := HM0.out.cell HG.out m1
      have m2' := HM0.out.cell HG.out m2
      have z0' := HM0.out.cell HG.out z0
      have z1' := HM0.out.cell HG.out z1
      have z2' := HM0.out.cell HG.out z2
      have HMF := hid hmf
      have zf' : ∀ j, wr.frozen? ⟨sz + 1, j, none⟩ = false := fun j => by
        have hb := HG.out.block (sz + 1) (World.block_lt_of_cell? _ _ z0) (by simp)
        have := zf j
        unfold World.frozen? at *
        rw [hb]
        exact this
      clear hmf
      go_wp2
      refine bodyPost_ret (v := .agg #[.map (some (sz + 2)), .slice T nt ct, .slice Q nq cq]) (by simp [results, Try.results27, go_sem, World.cell?_setCell_same, World.cell?_setCell_other, z0', z1', z2']) rfl ?_
      have hle : w.heap.size ≤ sz + 1 := by omega
      refine ⟨((HX.out.setCell (p := ⟨sz + 1, 0, none⟩) hle _).setCell (p := ⟨sz + 1, 1, none⟩) hle _).setCell (p := ⟨sz + 1, 2, none⟩) hle _, sz + 2, q, rfl, by omega, ?_, by have := HLN.out; omega⟩
      exact ((HMF.out.setCell (a := ⟨sz + 1, 0, none⟩) (by show sz + 2 ≠ sz + 1; omega) _).setCell (a := ⟨sz + 1, 1, none⟩) (by show sz + 2 ≠ sz + 1; omega) _).setCell (a := ⟨sz + 1, 2, none⟩) (by show sz + 2 ≠ sz + 1; omega) _
end Go.Proofs.Ytolbnhkdpbdhhaa
