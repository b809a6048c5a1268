/- append of a slice at a step of a region that draws its order; a part of a slice as a run equation. No program in sight. -/
import Derived.Test.YtnlmhnbogleijaaGreatDoorLasm
namespace Go.Deco
open Go Go.RowKit
set_option linter.unusedVariables false
section
variable {E : Type} {R : Rep E} {base : Nat} {e : TypeId} {T S : Nat → Prop} {P : Program}
theorem step_appS {ops : Array Oper} {o : Oper} {a : Act} {K : Act → World → Prop} {Q : Exit → Act → World → Prop} {X : Prop} {W : World} (hgd : o.guard = none) (s x : Operand) (t : TypeId)
    (ho : o.op = .call { callee := .builtin .append, args := #[s, x], argTypes := #[t, t] })
    (base : Nat) (e : TypeId) (i : TypeInfo) (z : Value) (size bytes : Nat) (ht : P.underlying t = some (.slice e)) (hi : P.info? e = some i) (hz : i.zero = some z)
    (hsize : i.size = size) (hby : i.bytes = bytes) (hzs : z.cells.size = size) (R : Rep E) (hR : R.size = size)
    (v : Value) (l : List E) (hs : a.eval s = v) (hown : OwnS R W base e T v l)
    (A : Option Addr) (m c : Nat) (ys : List E) (S : Nat → Prop) (hx : a.eval x = .slice A m c) (hsrc : Sl R W S (.slice A m c) ys) (hS : ∀ b, S b → IsCells W b → T b ∧ some b ≠ v.ownBlock)
    (h63 : l.length + m ≤ 9223372036854775807) (hbytes : (l.length + m) * bytes ≤ 140737488355328) (hbase : base ≤ W.heap.size)
    (h : ∀ A' c' W', OwnS R W' base e T (.slice A' (l.length + m) c') (l ++ ys) → W.grownBy W' v.ownBlock → K (a.put o.dst (.slice A' (l.length + m) c')) W') :
    if Region.wanted o (yielded ops a.tmps) = true then Oper.wp P o a W K Q else X := by
  have hw : Region.wanted o (yielded ops a.tmps) = true := by simp [Region.wanted, hgd]
  rw [if_pos hw]
  obtain ⟨A', c', W', hrun, h2, h3, h4⟩ := run_append_any' (P := P) W t o.type e i z size bytes ht hi hz hsize hby hzs hR v l hown A m c ys hsrc hS h63 hbytes hbase
  unfold Oper.wp execOp
  simp only [ho, resolve, invoke, builtin, Sem.run_bind, Sem.run_pure, Result.andThen_ok, List.map_toArray, List.map_cons, List.map_nil, hs, hx, hrun]
  exact h A' c' W' h2 h3

variable {w : World} {l : List E}
/-- s[:k] -/
theorem part_to {t e : TypeId} {ti : TypeInfo} (ht : P.underlying t = some (.slice e)) (hi : P.info? e = some ti) (hsz : ti.size = R.size) {A : Option Addr} {n c k : Nat} (h : Sl R w S (.slice A n c) l) (hk : k ≤ n) :
    ∃ A2, (∀ W, (Instr.slice t (.slice A n c) none (some (.int .i64 (k : Nat))) none).run P W = .ok (.slice A2 k c) W) ∧ Sl R w S (.slice A2 k c) (l.take k) := by
  obtain ⟨A2, h1, h2⟩ := h.part (i := 0) (j := k) (by omega) hk
  simp only [Nat.sub_zero, List.drop_zero] at h1 h2
  refine ⟨A2, fun W => ?_, h2⟩
  obtain ⟨A3, h3, _⟩ := run_part (P := P) ht hi hsz h (i := 0) (j := k) (by omega) hk W none (some (.int .i64 k)) (.inl ⟨rfl, rfl⟩) (.inr rfl)
  rw [h3]
  obtain ⟨A4, h5, _⟩ := h.part (i := 0) (j := k) (by omega) hk
  have hel : P.elem t = e := by simp [Program.elem, ht]
  have hs : (sizeOf (P.elem t)).run P W = .ok R.size W := by rw [hel]; simp [sizeOf, typeInfo, hi, hsz]
  have ht' : P.underlying t = some (.slice (P.elem t)) := by rw [hel]; exact ht
  obtain ⟨hnc, hcm⟩ := h.cap
  rw [run_slice_h (ht := ht') (h0 := by omega) (h2 := by omega), hs] at h3
  simp at h3
  rw [h1] at h3
  simp at h3
  simp [h3]
/-- s[k:] -/
theorem part_from {t e : TypeId} {ti : TypeInfo} (ht : P.underlying t = some (.slice e)) (hi : P.info? e = some ti) (hsz : ti.size = R.size) {A : Option Addr} {n c k : Nat} (h : Sl R w S (.slice A n c) l) (hk : k ≤ n) :
    ∃ A2, (∀ W, (Instr.slice t (.slice A n c) (some (.int .i64 (k : Nat))) none none).run P W = .ok (.slice A2 (n - k) (c - k)) W) ∧ Sl R w S (.slice A2 (n - k) (c - k)) (l.drop k) := by
  obtain ⟨A2, h1, h2⟩ := h.part (i := k) (j := n) hk (Nat.le_refl _)
  have hl := h.len
  rw [List.take_of_length_le (by rw [List.length_drop]; omega)] at h2
  refine ⟨A2, fun W => ?_, h2⟩
  obtain ⟨A3, h3, _⟩ := run_part (P := P) ht hi hsz h (i := k) (j := n) hk (Nat.le_refl _) W (some (.int .i64 k)) none (.inr rfl) (.inl ⟨rfl, rfl⟩)
  rw [h3]
  have hel : P.elem t = e := by simp [Program.elem, ht]
  have hs : (sizeOf (P.elem t)).run P W = .ok R.size W := by rw [hel]; simp [sizeOf, typeInfo, hi, hsz]
  have ht' : P.underlying t = some (.slice (P.elem t)) := by rw [hel]; exact ht
  obtain ⟨hnc, hcm⟩ := h.cap
  rw [run_slice_l (ht := ht') (h0 := by omega) (h1 := by omega), hs] at h3
  simp at h3
  rw [h1] at h3
  simp at h3
  simp [h3]
end
end Go.Deco
