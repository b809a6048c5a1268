/- The predicates of CoverageMinimize and CoverageMinimal as closures. -/
import Derived.Test.YtcddmggefmfkkaaMinR
namespace Go.Proofs.Ytcddmggefmfkkaa
open Go.RowKit Go.Deco
set_option linter.unusedSimpArgs false
set_option linter.unusedVariables false

/-- The rule's box. -/
structure QB (b : Nat) (q : Rl) (w : World) : Prop where
  q0 : w.cell? ⟨b, 0, none⟩ = some (.int .u32 q.least)
  q1 : w.cell? ⟨b, 1, none⟩ = some (.int .i64 q.count)
  q2 : w.cell? ⟨b, 2, none⟩ = some (.bool q.pair)
theorem QB.same {b : Nat} {q : Rl} {w w' : World} (h : QB b q w) (he : w'.heap[b]? = w.heap[b]?) : QB b q w' :=
  ⟨(World.cell?_of_block (a := ⟨b, 0, none⟩) he).trans h.q0, (World.cell?_of_block (a := ⟨b, 1, none⟩) he).trans h.q1, (World.cell?_of_block (a := ⟨b, 2, none⟩) he).trans h.q2⟩
theorem QB.lt {b : Nat} {q : Rl} {w : World} (h : QB b q w) : b < w.heap.size := World.block_lt_of_cell? _ _ h.q0
theorem QB.ext {b : Nat} {q : Rl} {w w' : World} (h : QB b q w) (he : Ext w w') : QB b q w' := h.same (he.block h.lt)

set_option maxRecDepth 100000 in
set_option maxHeartbeats 1000000 in
theorem minFails (qb : Nat) (q : Rl) : FailsIs 21 #[.pointer (some ⟨qb, 0, none⟩)] none (fun b => b = qb) (failsB q) (fun _ w => QB qb q w) where
  enter args w := callFunc_enter Try.func21 (by kernel_rfl) rfl args w
  call w k A n c l hj _ hl hn := by
    have HS := hid hl
    obtain ⟨q0, q1, q2⟩ := hj
    have HJ := hid (QB.mk q0 q1 q2)
    obtain ⟨r, hr⟩ : ∃ r, failsB q l = r := ⟨_, rfl⟩
    rw [hr]
    have HR := hid hr
    clear hr hl
    show Calls Try.prog 21 #[.slice A n c, .pointer (some ⟨qb, 0, none⟩)] w _
    go_enter Try.func21, Try.ntmps21
    go_wp2_with fail
    refine (fails_lit w q.least q.count q.pair _ A n c l HS.out).mono ?_
    rintro e w' ⟨rfl, hx⟩
    rw [show failsB ⟨q.least, q.count, q.pair⟩ l = r from HR.out]
    have HX := hid hx
    clear hx q0 q1 q2
    go_wp2
    go_ret
    exact ⟨by simp, HJ.out.ext HX.out, HX.out.grownBy none⟩
  keep k w w' h hk := h.same (hk _ rfl)
  old k w b h hb := by subst hb; exact h.lt
  sub _ h := by cases h
set_option maxRecDepth 100000 in
set_option maxHeartbeats 1000000 in
theorem againFails (qb : Nat) (q : Rl) : FailsIs 26 #[.pointer (some ⟨qb, 0, none⟩)] none (fun b => b = qb) (failsB q) (fun _ w => QB qb q w) where
  enter args w := callFunc_enter Try.func26 (by kernel_rfl) rfl args w
  call w k A n c l hj _ hl hn := by
    have HS := hid hl
    obtain ⟨q0, q1, q2⟩ := hj
    have HJ := hid (QB.mk q0 q1 q2)
    obtain ⟨r, hr⟩ : ∃ r, failsB q l = r := ⟨_, rfl⟩
    rw [hr]
    have HR := hid hr
    clear hr hl
    show Calls Try.prog 26 #[.slice A n c, .pointer (some ⟨qb, 0, none⟩)] w _
    go_enter Try.func26, Try.ntmps26
    go_wp2_with fail
    refine (fails_lit w q.least q.count q.pair _ A n c l HS.out).mono ?_
    rintro e w' ⟨rfl, hx⟩
    rw [show failsB ⟨q.least, q.count, q.pair⟩ l = r from HR.out]
    have HX := hid hx
    clear hx q0 q1 q2
    go_wp2
    go_ret
    exact ⟨by simp, HJ.out.ext HX.out, HX.out.grownBy none⟩
  keep k w w' h hk := h.same (hk _ rfl)
  old k w b h hb := by subst hb; exact h.lt
  sub _ h := by cases h

/-- The count of the calls, and the rule. -/
structure CB (cb qb : Nat) (q : Rl) (k : Nat) (w : World) : Prop where
  c0 : w.cell? ⟨cb, 0, none⟩ = some (.int .i64 k)
  fr : w.frozen? ⟨cb, 0, none⟩ = false
  qb : QB qb q w
set_option maxRecDepth 100000 in
set_option maxHeartbeats 1000000 in
theorem countFails (cb qb : Nat) (q : Rl) (hne : cb ≠ qb) : FailsIs 25 #[.pointer (some ⟨cb, 0, none⟩), .pointer (some ⟨qb, 0, none⟩)] (some cb) (fun b => b = cb ∨ b = qb) (failsB q) (fun k w => CB cb qb q k w) where
  enter args w := callFunc_enter Try.func25 (by kernel_rfl) rfl args w
  call w k A n c l hj hk hl hn := by
    obtain ⟨c0, fr, hq⟩ := hj
    have HC := hid c0
    have HFR := hid fr
    have HQ := hid hq
    obtain ⟨W1, hW1⟩ : ∃ W1, w.setCell ⟨cb, 0, none⟩ (.int .i64 ((k : Int) + 1)) = W1 := ⟨_, rfl⟩
    have hb1 : ∀ b, b ≠ cb → W1.heap[b]? = w.heap[b]? := fun b hb => by rw [← hW1]; exact Below.heap_setCell _ _ _ b hb
    have HQ1 := hid (hq.same (hb1 qb (fun e => hne e.symm)))
    have y0 : W1.cell? ⟨cb, 0, none⟩ = some (.int .i64 ((k : Int) + 1)) := by rw [← hW1]; exact World.cell?_setCell_same' _ _ _ (by rw [c0]; rfl)
    have HY := hid y0
    have HF1 := hid (show W1.frozen? ⟨cb, 0, none⟩ = false by rw [← hW1, World.frozen?_setCell]; exact fr)
    have HS := hid (hl.keep (w' := W1) fun b hb _ => hb1 b (fun e => hb (by rw [e])))
    have HG := hid (show w.grownBy W1 (some cb) by rw [← hW1]; exact ⟨rfl, rfl, rfl, by simp, fun i _ h => Below.heap_setCell _ _ _ i (fun e => h (by rw [e]))⟩)
    have q0 := HQ1.out.q0
    have q1 := HQ1.out.q1
    have q2 := HQ1.out.q2
    obtain ⟨r, hr⟩ : ∃ r, failsB q l = r := ⟨_, rfl⟩
    rw [hr]
    have HR := hid hr
    have hw1 : IntKind.i64.wrap ((k : Int) + 1) = (k : Int) + 1 := IntWalk.i64_in _ (by omega)
    have hkk : (k : Int) < 1000 := by omega
    clear hr hl hq hb1 y0 hk
    show Calls Try.prog 25 #[.slice A n c, .pointer (some ⟨cb, 0, none⟩), .pointer (some ⟨qb, 0, none⟩)] w _
    go_enter Try.func25, Try.ntmps25
    go_wp2_with fail
    refine (fails_lit W1 q.least q.count q.pair _ A n c l HS.out).mono ?_
    rintro e w' ⟨rfl, hx⟩
    rw [show failsB ⟨q.least, q.count, q.pair⟩ l = r from HR.out]
    have HX := hid hx
    clear hx q0 q1 q2 c0 fr hW1
    go_wp2
    go_ret
    exact ⟨by simp, ⟨HX.out.cell HY.out, (HX.out.frozen (World.block_lt_of_cell? _ _ HY.out)).trans HF1.out, HQ1.out.ext HX.out⟩, HG.out.andThen (HX.out.grownBy (some cb)) (fun j hj => .inr hj)⟩
  keep k w w' h hk := ⟨(World.cell?_of_block (a := ⟨cb, 0, none⟩) (hk cb (.inl rfl))).trans h.c0, (World.frozen?_of_block (a := ⟨cb, 0, none⟩) (hk cb (.inl rfl))).trans h.fr, h.qb.same (hk qb (.inr rfl))⟩
  old k w b h hb := by
    rcases hb with rfl | rfl
    · exact World.block_lt_of_cell? _ _ h.c0
    · exact h.qb.lt
  sub b h := by injection h with h; exact .inl h
end Go.Proofs.Ytcddmggefmfkkaa
