/- A part of a slice: what it reads as, and the law of the operation. No program in sight. -/
import Derived.Test.YtekilcnkinmakaaDoorBase
namespace Go.Deco
open Go Go.RowKit
set_option linter.unusedVariables false

section
variable {E : Type} {R : Rep E} {w : World} {S : Nat → Prop} {l : List E}
theorem Sl.part {A : Option Addr} {n c i j : Nat} (h : Sl R w S (.slice A n c) l) (hij : i ≤ j) (hj : j ≤ n) :
    ∃ A2, sliced A i j c R.size = .slice A2 (j - i) (c - i) ∧ Sl R w S (.slice A2 (j - i) (c - i)) ((l.drop i).take (j - i)) := by
  have hn := h.len
  obtain ⟨hnc, hcm⟩ := h.cap
  by_cases hl : l = []
  · subst hl
    simp at hn
    subst hn
    obtain rfl : j = 0 := by omega
    obtain rfl : i = 0 := by omega
    refine ⟨_, rfl, ?_⟩
    obtain ⟨A', c', hv, h1, h2, h3, h4⟩ := h
    simp only [Value.slice.injEq] at hv
    obtain ⟨rfl, _, rfl⟩ := hv
    refine ⟨if c = 0 then A else Option.map (fun x => x.add (0 * R.size)) A, c, by simp, by simp, by simpa using h2, ?_, fun h => absurd (by simp) h⟩
    intro he
    split at he
    · exact h3 he
    · cases A with
      | none => exact h3 rfl
      | some a => cases he
  · obtain ⟨b, off, rfl⟩ := h.at0 (by rw [hn]; exact List.length_pos_iff.2 hl)
    unfold sliced
    refine ⟨_, rfl, ?_⟩
    by_cases hc : c = i
    · subst hc
      rw [if_pos rfl]
      obtain rfl : j = c := by omega
      have e : (l.drop j).take (j - j) = [] := by simp
      rw [e]
      exact ⟨some ⟨b, off, none⟩, 0, by simp, by simp, by simp [maxLen], by simp, fun h => absurd rfl h⟩
    · rw [if_neg hc]
      have e : Option.map (fun x : Addr => x.add (i * R.size)) (some ⟨b, off, none⟩) = some ⟨b, off + i * R.size, none⟩ := by
        show some (Addr.add _ _) = _
        unfold Addr.add
        split <;> simp_all
      rw [e]
      exact h.sub hij hj

theorem Chunks.flat (hR : ∀ (w : World) (S : Nat → Prop) (w' : World) (S' : Nat → Prop) (cs : List Value) (e : E), R.rel w S cs e → R.rel w' S' cs e) {w' : World} {S' : Nat → Prop} :
    ∀ {l : List E} {xs : List Value}, Chunks R w S xs l → Chunks R w' S' xs l
  | [], _, h => h
  | _ :: _, _, ⟨cs, rest, hx, hr, h⟩ => ⟨cs, rest, hx, hR _ _ _ _ _ _ hr, Chunks.flat hR h⟩
/-- What is owned reads in its own blocks alone, where the elements lead nowhere. -/
theorem OwnS.flat_sl {base : Nat} {e : TypeId} {T : Nat → Prop} {v : Value} (hR : ∀ (w : World) (S : Nat → Prop) (w' : World) (S' : Nat → Prop) (cs : List Value) (e : E), R.rel w S cs e → R.rel w' S' cs e)
    (h : OwnS R w base e T v l) (hS : ∀ k, base ≤ k → S k) : Sl R w S v l := by
  obtain ⟨xs, ho, hc⟩ := h
  have hb := ho.lt
  exact OwnS.slT (T := fun _ => False) ⟨xs, ho, hc.flat hR⟩ (fun _ h => h.elim) (fun k hk => hS k (hb k hk).1)

variable {P : Program}
def CutLo (a : Act) : Option Operand → Nat → Prop
  | none, i => i = 0
  | some x, i => a.eval x = .int .i64 i
def CutHi (a : Act) (n : Nat) : Option Operand → Nat → Prop
  | none, j => j = n
  | some x, j => a.eval x = .int .i64 j

theorem run_part {t e : TypeId} {ti : TypeInfo} (ht : P.underlying t = some (.slice e)) (hi : P.info? e = some ti) (hsz : ti.size = R.size) {A : Option Addr} {n c i j : Nat} (h : Sl R w S (.slice A n c) l)
    (hij : i ≤ j) (hj : j ≤ n) (W : World) (lo hi' : Option Value) (hlo : lo = none ∧ i = 0 ∨ lo = some (.int .i64 i)) (hhi : hi' = none ∧ j = n ∨ hi' = some (.int .i64 j)) :
    ∃ A2, (Instr.slice t (.slice A n c) lo hi' none).run P W = .ok (.slice A2 (j - i) (c - i)) W ∧ Sl R w S (.slice A2 (j - i) (c - i)) ((l.drop i).take (j - i)) := by
  obtain ⟨A2, h1, h2⟩ := h.part hij hj
  obtain ⟨hnc, hcm⟩ := h.cap
  refine ⟨A2, ?_, h2⟩
  have hel : P.elem t = e := by simp [Program.elem, ht]
  have hs : (sizeOf (P.elem t)).run P W = .ok R.size W := by rw [hel]; simp [sizeOf, typeInfo, hi, hsz]
  rw [← h1]
  have ht' : P.underlying t = some (.slice (P.elem t)) := by rw [hel]; exact ht
  rcases hlo with ⟨rfl, rfl⟩ | rfl <;> rcases hhi with ⟨rfl, rfl⟩ | rfl
  · rw [run_slice_all (ht := ht'), hs]; rfl
  · rw [run_slice_h (ht := ht') (h0 := by omega) (h2 := by omega), hs]; simp
  · rw [run_slice_l (ht := ht') (h0 := by omega) (h1 := by omega), hs]; simp
  · rw [run_slice_lh (ht := ht') (h0 := by omega) (h1 := by omega) (h2 := by omega), hs]; simp

theorem wpList_cut {ops : Array Oper} {rest : List Oper} {o : Oper} {a : Act} {Q : Exit → Act → World → Prop} {W : World} (hgd : o.guard = none) (t e : TypeId) (x : Operand) (lo hi : Option Operand)
    (ho : o.op = .slice t x lo hi none) (ht : P.underlying t = some (.slice e)) (ti : TypeInfo) (hinf : P.info? e = some ti) (R : Rep E) (hsz : ti.size = R.size)
    {A : Option Addr} {n c : Nat} (hx : a.eval x = .slice A n c) (hs : Sl R w S (.slice A n c) l) (i j : Nat) (hlo : CutLo a lo i) (hhi : CutHi a n hi j) (hij : i ≤ j) (hj : j ≤ n)
    (h : ∀ A2, Sl R w S (.slice A2 (j - i) (c - i)) ((l.drop i).take (j - i)) → wpList P ops Q rest (a.put o.dst (.slice A2 (j - i) (c - i))) W) :
    wpList P ops Q (o :: rest) a W :=
  wpList_plain hgd fun _ hK => by
    obtain ⟨A2, h1, h2⟩ := run_part (P := P) ht hinf hsz hs hij hj W (lo.map a.eval) (hi.map a.eval)
      (by cases lo with | none => exact .inl ⟨rfl, hlo⟩ | some y => exact .inr (by show some (a.eval y) = _; rw [show a.eval y = _ from hlo]))
      (by cases hi with | none => exact .inl ⟨rfl, hhi⟩ | some y => exact .inr (by show some (a.eval y) = _; rw [show a.eval y = _ from hhi]))
    unfold Oper.wp execOp
    have hel : P.elem t = e := by simp [Program.elem, ht]
    have ht' : P.underlying t = some (.slice (P.elem t)) := by rw [hel]; exact ht
    simp only [ho, Sem.run_bind, hx, Option.map_none, run_sliceAt_slice (h := ht'), h1, Result.andThen_ok, Sem.run_pure]
    exact hK _ _ (h A2 h2)
/-- A filter for an arm: the operation at hand is just this cut. -/
theorem wpList_at_slice {ops : Array Oper} {rest : List Oper} {o : Oper} {a : Act} {Q : Exit → Act → World → Prop} {W : World} (t : TypeId) (x : Operand) (lo hi : Option Operand) (hgd : o.guard = none)
    (ho : o.op = .slice t x lo hi none) (h : wpList P ops Q (o :: rest) a W) : wpList P ops Q (o :: rest) a W := h
theorem wpList_to {ops : Array Oper} {rest : List Oper} {o : Oper} {a : Act} {Q : Exit → Act → World → Prop} {W : World} (hgd : o.guard = none) (t e : TypeId) (x hi : Operand)
    (ho : o.op = .slice t x none (some hi) none) (ht : P.underlying t = some (.slice e)) (ti : TypeInfo) (hinf : P.info? e = some ti) (R : Rep E) (hsz : ti.size = R.size)
    {A : Option Addr} {n c : Nat} (hx : a.eval x = .slice A n c) (hs : Sl R w S (.slice A n c) l) (j : Nat) (hhi : a.eval hi = .int .i64 j) (hj : j ≤ n)
    (h : ∀ A2, Sl R w S (.slice A2 j c) (l.take j) → wpList P ops Q rest (a.put o.dst (.slice A2 j c)) W) : wpList P ops Q (o :: rest) a W :=
  wpList_cut hgd t e x none (some hi) ho ht ti hinf R hsz hx hs 0 j rfl hhi (by omega) hj fun A2 h2 => h A2 (by simpa using h2)
theorem wpList_from {ops : Array Oper} {rest : List Oper} {o : Oper} {a : Act} {Q : Exit → Act → World → Prop} {W : World} (hgd : o.guard = none) (t e : TypeId) (x lo : Operand)
    (ho : o.op = .slice t x (some lo) none none) (ht : P.underlying t = some (.slice e)) (ti : TypeInfo) (hinf : P.info? e = some ti) (R : Rep E) (hsz : ti.size = R.size)
    {A : Option Addr} {n c : Nat} (hx : a.eval x = .slice A n c) (hs : Sl R w S (.slice A n c) l) (i : Nat) (hlo : a.eval lo = .int .i64 i) (hi : i ≤ n)
    (h : ∀ A2, Sl R w S (.slice A2 (n - i) (c - i)) (l.drop i) → wpList P ops Q rest (a.put o.dst (.slice A2 (n - i) (c - i))) W) : wpList P ops Q (o :: rest) a W :=
  wpList_cut hgd t e x (some lo) none ho ht ti hinf R hsz hx hs i n hlo rfl hi (Nat.le_refl _) fun A2 h2 => h A2 (by
    have hn := hs.len
    rwa [List.take_of_length_le (by rw [List.length_drop]; omega)] at h2)
end
end Go.Deco
