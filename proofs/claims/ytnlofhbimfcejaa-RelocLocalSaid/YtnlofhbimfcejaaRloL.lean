/- The plain law of RelocLocal: Apply's result checks, and a byte that changed lies in the four of a relocation. -/
import Derived.Test.YtnlofhbimfcejaaRelP
import Derived.Test.YtnlofhbimfcejaaRelH
namespace Go.Proofs.Ytnlofhbimfcejaa
open Go.RowKit Go.Deco
set_option linter.unusedSimpArgs false
set_option linter.unusedVariables false

theorem any_key {F : ByteArray × Nat × Nat × Bool × Bool → Bool} {l l' : List Sec} (h : l'.map secKey = l.map secKey) : l'.any (fun x => F (secKey x)) = l.any (fun x => F (secKey x)) := by
  have e := congrArg (fun m => m.any F) h
  simpa only [List.any_map, Function.comp_def] using e
theorem secTo_key {s s' : Sec} (h : secKey s' = secKey s) : secTo s' = secTo s := by
  simp only [secKey, Prod.mk.injEq] at h
  unfold secTo
  rw [h.2.1, h.2.2.1]
theorem secErr_shape {pre pre' : List Sec} {s s' : Sec} (hp : pre'.map secKey = pre.map secKey) (h : secKey s' = secKey s) : secErr pre' s' = secErr pre s := by
  have e3 := secTo_key h
  have h' := h
  simp only [secKey, Prod.mk.injEq] at h'
  have e2 : pre'.any (fun x => x.name.toList == s.name.toList) = pre.any (fun x => x.name.toList == s.name.toList) := any_key (F := fun q => q.1.toList == s.name.toList) hp
  unfold secErr
  rw [e3, h'.1, h'.2.1, h'.2.2.1, e2]
theorem firstErr_shape : ∀ {l l' pre pre' : List Sec}, pre'.map secKey = pre.map secKey → l'.map secKey = l.map secKey → firstErr pre' l' = firstErr pre l
  | [], [], _, _, _, _ => rfl
  | [], _ :: _, _, _, _, h => by simp at h
  | _ :: _, [], _, _, _, h => by simp at h
  | s :: l, s' :: l', pre, pre', hp, h => by
    simp only [List.map_cons, List.cons.injEq] at h
    rw [firstErr, firstErr, secErr_shape hp h.1, firstErr_shape (l := l) (l' := l') (pre := pre ++ [s]) (pre' := pre' ++ [s']) (by simp [hp, h.1]) h.2]
theorem overl_shape : ∀ {l l' pre pre' : List Sec}, pre'.map secKey = pre.map secKey → l'.map secKey = l.map secKey → overl pre' l' = overl pre l
  | [], [], _, _, _, _ => rfl
  | [], _ :: _, _, _, _, h => by simp at h
  | _ :: _, [], _, _, _, h => by simp at h
  | s :: l, s' :: l', pre, pre', hp, h => by
    simp only [List.map_cons, List.cons.injEq] at h
    have e3 := secTo_key h.1
    have h' := h.1
    simp only [secKey, Prod.mk.injEq] at h'
    have e2 : pre'.any (fun x => secMeet x s') = pre.any (fun x => secMeet x s) := by
      have e4 : pre.any (fun x => secMeet x s) = pre.any (fun x => secMeet x s') := by
        unfold secMeet
        rw [e3, h'.2.1]
      rw [e4]
      exact any_key (F := fun q => meetN q.2.1 (min (q.2.1 + q.2.2.1) 4294967295) s'.addr (secTo s')) hp
    rw [overl, overl, e2, overl_shape (l := l) (l' := l') (pre := pre ++ [s]) (pre' := pre' ++ [s']) (by simp [hp, h.1]) h.2]
theorem secCheck_shape {l l' : List Sec} (h : l'.map secKey = l.map secKey) : secCheck l' = secCheck l := by
  have hl := congrArg List.length h
  simp only [List.length_map] at hl
  unfold secCheck
  rw [hl, firstErr_shape (pre := []) (pre' := []) rfl h, overl_shape (pre := []) (pre' := []) rfl h]
theorem apply_check {o : Ob} (h : obCheck o = 0) : obCheck (applyOb o) = 0 := by
  obtain ⟨h1, h2, -, h4, -⟩ := obCheck_zero h
  have hs : (applyOb o).secs.map secKey = o.secs.map secKey := fold_shape _ (relsErr_each h4)
  have e1 : secCheck (applyOb o).secs = 0 := (secCheck_shape hs).trans h1
  have e2 : symCheck (applyOb o).syms = 0 := h2
  unfold obCheck
  rw [e1, e2]
  rfl
theorem apply_apply (o : Ob) : applyOb (applyOb o) = applyOb o := rfl
theorem applyR_twice {o : Ob} (h : obCheck o = 0) : applyR (applyOb o) = (applyOb o, 0) := by rw [applyR, if_pos (apply_check h), apply_apply]

theorem put4_far {d : List Nat} {f n k : Nat} (h : f + 4 ≤ d.length) (hk : k < f ∨ f + 4 ≤ k) : (put4 d f n)[k]? = d[k]? := by
  have e : min f d.length = f := by omega
  unfold put4
  rcases hk with hk | hk
  · rw [List.append_assoc, List.getElem?_append_left (by rw [List.length_take]; omega), List.getElem?_take_of_lt hk]
  · rw [List.getElem?_append_right (by simp [bytes4]; omega), List.getElem?_drop]
    congr 1
    simp [bytes4]
    omega
theorem fold_far {syms : List Sy} {i k : Nat} : ∀ (l : List Rl) {L : List Sec} {s s' : Sec}, (∀ r ∈ l, relOne L syms r = 0) → L[i]? = some s → (l.foldl (patchS syms) L)[i]? = some s' →
    (∀ r ∈ l, r.sec = i → k < r.off.toNat ∨ r.off.toNat + 4 ≤ k) → s'.data[k]? = s.data[k]?
  | [], _, _, _, _, h1, h2, _ => by
    rw [List.foldl_nil, h1] at h2
    cases h2
    rfl
  | r :: l, L, s, s', hv, h1, h2, hf => by
    rw [List.foldl_cons] at h2
    have h0 := hv r (by simp)
    have hsh := patch_shape h0
    obtain ⟨s1, hs1, -⟩ := shape_at hsh h1
    have ih := fold_far l (L := patchS syms L r) (s := s1) (s' := s') (fun x hx => by rw [relOne_shape hsh]; exact hv x (by simp [hx])) hs1 h2 (fun x hx => hf x (by simp [hx]))
    rw [ih]
    obtain ⟨kk, t, f, y, q1, q2, q3, q4, -, -⟩ := relOne_zero h0
    unfold patchS at hs1
    rw [q1, Int.toNat_natCast, q2] at hs1
    simp only [q3, Int.toNat_natCast] at hs1
    by_cases e : kk = i
    · subst e
      rw [List.getElem?_set_self (List.getElem?_eq_some_iff.1 q2).1] at hs1
      rw [h1] at q2
      cases q2
      cases hs1
      have := hf r (by simp) q1
      rw [q3, Int.toNat_natCast] at this
      exact put4_far q4 this
    · rw [List.getElem?_set_ne e, h1] at hs1
      cases hs1
      rfl
/-- A byte that Apply changed is one of the four from a site on. -/
theorem apply_near {o : Ob} (h : obCheck o = 0) {i k : Nat} {s s' : Sec} (hs : o.secs[i]? = some s) (hs' : (applyOb o).secs[i]? = some s') (hne : s'.data[k]? ≠ s.data[k]?) : ∃ p ∈ placesOf o, w32 ((w32 ((s.addr : Int) + k) : Nat) - (p : Int)) < 4 := by
  obtain ⟨-, -, -, h4, -⟩ := obCheck_zero h
  have hv := relsErr_each h4
  apply Classical.byContradiction
  intro hno
  refine hne (fold_far o.rels hv hs hs' fun r hr hsec => ?_)
  apply Classical.byContradiction
  intro hin
  obtain ⟨kk, t, f, y, q1, q2, q3, -, -, -⟩ := relOne_zero (hv r hr)
  obtain rfl : kk = i := by omega
  rw [hs] at q2
  cases q2
  rw [q3, Int.toNat_natCast] at hin
  refine hno ⟨w32 ((s.addr : Int) + f), ?_, ?_⟩
  · unfold placesOf
    refine List.mem_filterMap.2 ⟨r, hr, ?_⟩
    rw [if_neg (by omega), q1, Int.toNat_natCast, hs, q3]
    rfl
  · unfold w32
    omega
end Go.Proofs.Ytnlofhbimfcejaa
