/- A list of symbols that Check accepts: nothing depends on its order. Plain law. -/
import Derived.Test.YtekilcnkinmakaaDoorStbM
namespace Go.Deco
open Go Go.RowKit
set_option linter.unusedSimpArgs false
set_option linter.unusedVariables false

theorem dup_iff : ∀ (l pre : List Sy), dupTo pre l = false ↔ (∀ x ∈ l, ∀ y ∈ pre, x.key ≠ y.key) ∧ l.Pairwise (fun x y => x.key ≠ y.key)
  | [], pre => by simp [dupTo]
  | s :: r, pre => by
    rw [dupTo, Bool.or_eq_false_iff, dup_iff r, List.pairwise_cons]
    have h1 : (pre.map Sy.key).contains s.key = false ↔ ∀ y ∈ pre, s.key ≠ y.key := by
      rw [← Bool.not_eq_true, List.contains_iff_mem, List.mem_map]
      constructor
      · intro h y hy e
        exact h ⟨y, hy, e.symm⟩
      · rintro h ⟨y, hy, e⟩
        exact h y hy e.symm
    rw [h1]
    constructor
    · rintro ⟨h2, h3, h4⟩
      refine ⟨fun x hx y hy => ?_, fun y hy => ?_, h4⟩
      · rcases List.mem_cons.1 hx with rfl | hx
        · exact h2 y hy
        · exact h3 x hx y (List.mem_append_left _ hy)
      · exact fun e => h3 y hy s (List.mem_append_right _ (List.mem_singleton.2 rfl)) e.symm
    · rintro ⟨h2, h3, h4⟩
      refine ⟨fun y hy => h2 s (List.mem_cons_self ..) y hy, fun x hx y hy => ?_, h4⟩
      rcases List.mem_append.1 hy with hy | hy
      · exact h2 x (List.mem_cons_of_mem _ hx) y hy
      · rw [List.mem_singleton.1 hy]
        exact fun e => h3 x hx e.symm
theorem check_zero {l : List Sy} : symCheck l = 0 ↔ l.length ≤ 256 ∧ (∀ s ∈ l, nameB s.name = true) ∧ l.Pairwise (fun x y => x.key ≠ y.key) ∧ ∀ s ∈ l, kindB s.kind = true := by
  unfold symCheck
  by_cases h1 : 256 < l.length
  · rw [if_pos h1]
    constructor
    · intro h; omega
    · intro h; omega
  · rw [if_neg h1]
    by_cases h2 : l.all (fun s => nameB s.name) = true
    · rw [if_pos h2]
      cases h3 : dupTo [] l with
      | true =>
        rw [if_pos rfl]
        constructor
        · intro h; omega
        · rintro ⟨_, _, h4, _⟩
          have := (dup_iff l []).2 ⟨by simp, h4⟩
          rw [h3] at this
          cases this
      | false =>
        rw [if_neg Bool.noConfusion]
        by_cases h4 : l.all (fun s => kindB s.kind) = true
        · rw [if_pos h4]
          refine ⟨fun _ => ⟨by omega, List.all_eq_true.1 h2, ((dup_iff l []).1 h3).2, List.all_eq_true.1 h4⟩, fun _ => rfl⟩
        · rw [if_neg h4]
          constructor
          · intro h; omega
          · rintro ⟨_, _, _, h5⟩
            exact absurd (List.all_eq_true.2 h5) h4
    · rw [if_neg h2]
      constructor
      · intro h; omega
      · rintro ⟨_, h5, _⟩
        exact absurd (List.all_eq_true.2 h5) h2
theorem key_one {l : List Sy} (h : l.Pairwise fun x y => x.key ≠ y.key) {s t : Sy} (hs : s ∈ l) (ht : t ∈ l) (hk : s.key = t.key) : s = t := by
  obtain ⟨i, hi, rfl⟩ := List.getElem_of_mem hs
  obtain ⟨j, hj, rfl⟩ := List.getElem_of_mem ht
  rcases Nat.lt_trichotomy i j with h1 | h1 | h1
  · exact absurd hk (List.pairwise_iff_getElem.1 h i j hi hj h1)
  · subst h1; rfl
  · exact absurd hk.symm (List.pairwise_iff_getElem.1 h j i hj hi h1)
section
variable {l m : List Sy} (hp : l.Perm m) (hu : l.Pairwise fun x y => x.key ≠ y.key)
include hp hu
theorem keys_perm' : m.Pairwise fun x y => x.key ≠ y.key := hp.pairwise hu fun h e => h e.symm
theorem find_perm (nm : List UInt8) : findSy m nm = findSy l nm := by
  have key : ∀ {a b : List Sy}, (∀ x, x ∈ a → x ∈ b) → (b.Pairwise fun x y => x.key ≠ y.key) → ∀ s, findSy a nm = some s → findSy b nm = some s := by
    intro a b hab hb s h
    have h1 := List.mem_of_find?_eq_some h
    have h2 : s.key = nm := by simpa using List.find?_some h
    cases h3 : findSy b nm with
    | none =>
      have := List.find?_eq_none.1 h3 s (hab s h1)
      simp [h2] at this
    | some t =>
      have h4 := List.mem_of_find?_eq_some h3
      have h5 : t.key = nm := by simpa using List.find?_some h3
      rw [key_one hb (hab s h1) h4 (h2.trans h5.symm)]
  cases h : findSy l nm with
  | some s => exact key (fun x hx => hp.mem_iff.1 hx) (keys_perm' hp hu) s h
  | none =>
    cases h2 : findSy m nm with
    | none => rfl
    | some s =>
      have := key (fun x hx => hp.mem_iff.2 hx) hu s h2
      rw [h] at this
      cases this
theorem at_perm (a : Nat) : atSy m a = atSy l a := by
  cases h : atSy l a with
  | none =>
    cases h2 : atSy m a with
    | none => rfl
    | some t =>
      obtain ⟨h3, h4, _⟩ := atSy_some h2
      exact absurd h4 (atSy_none h t (hp.mem_iff.2 h3))
  | some s =>
    obtain ⟨h3, h4, h5⟩ := atSy_some h
    obtain ⟨t, ht⟩ := atSy_is (hp.mem_iff.1 h3) h4
    obtain ⟨k3, k4, k5⟩ := atSy_some ht
    have e := ltK_conn (k5 s (hp.mem_iff.1 h3) h4) (h5 t (hp.mem_iff.2 k3) k4)
    rw [ht, key_one hu h3 (hp.mem_iff.2 k3) e]
omit hu in
theorem nearA_perm (a : Nat) : nearA m a = nearA l a := by
  cases h : nearA l a with
  | none =>
    cases h2 : nearA m a with
    | none => rfl
    | some b =>
      obtain ⟨h3, ⟨t, h4, h5⟩, _⟩ := nearA_some h2
      have := nearA_none h t (hp.mem_iff.2 h4)
      omega
  | some b =>
    obtain ⟨h3, ⟨t, h4, h5⟩, h6⟩ := nearA_some h
    cases h2 : nearA m a with
    | none =>
      have := nearA_none h2 t (hp.mem_iff.1 h4)
      omega
    | some c =>
      obtain ⟨k3, ⟨u, k4, k5⟩, k6⟩ := nearA_some h2
      have e1 := h6 u (hp.mem_iff.2 k4) (by omega)
      have e2 := k6 t (hp.mem_iff.1 h4) (by omega)
      congr 1
      omega
theorem near_perm (a : Nat) : nearSy m a = nearSy l a := by
  unfold nearSy
  rw [nearA_perm hp]
  cases nearA l a with
  | none => rfl
  | some b => exact at_perm hp hu b
theorem sort_perm : stab ltS m = stab ltS l := by
  refine (stab_perm weakS hp (hu.imp fun {x y} h => ?_)).symm
  cases e : eqvB ltS x y with
  | false => rfl
  | true =>
    obtain ⟨h1, h2⟩ := eqvB_iff.1 e
    rw [← Bool.not_eq_true, ltS_iff] at h1 h2
    have ha : x.addr = y.addr := by
      rcases Nat.lt_trichotomy x.addr y.addr with h3 | h3 | h3
      · exact absurd (.inl h3) h1
      · exact h3
      · exact absurd (.inl h3) h2
    have k1 : ltK x.key y.key = false := by
      cases e1 : ltK x.key y.key with
      | false => rfl
      | true => exact absurd (.inr ⟨ha, e1⟩) h1
    have k2 : ltK y.key x.key = false := by
      cases e1 : ltK y.key x.key with
      | false => rfl
      | true => exact absurd (.inr ⟨ha.symm, e1⟩) h2
    exact absurd (ltK_conn k1 k2) h
end
theorem check_perm {l m : List Sy} (hp : l.Perm m) (h : symCheck l = 0) : symCheck m = 0 := by
  obtain ⟨h1, h2, h3, h4⟩ := check_zero.1 h
  exact check_zero.2 ⟨by rw [← hp.length_eq]; exact h1, fun s hs => h2 s (hp.mem_iff.2 hs), keys_perm' hp h3, fun s hs => h4 s (hp.mem_iff.2 hs)⟩
end Go.Deco
