/- Symbols at an address, and the nearest ones, as plain law. No walk. -/
import Derived.Test.YtekilcnkinmakaaDoorSymL
namespace Go.Deco
open Go Go.RowKit
set_option linter.unusedVariables false

theorem bytesLess_lt : ∀ (x y : List UInt8), Op.bytesLess x y = decide (x < y)
  | [], [] => by simp [Op.bytesLess]
  | [], y :: ys => by simp [Op.bytesLess]
  | x :: xs, [] => by simp [Op.bytesLess]
  | x :: xs, y :: ys => by
    rw [Op.bytesLess, bytesLess_lt xs ys]
    rw [Bool.eq_iff_iff]
    simp [List.cons_lt_cons_iff]
/-- Whether one name stands ahead of another. -/
def ltK (a b : List UInt8) : Bool := Op.bytesLess a b
theorem ltK_irr (a : List UInt8) : ltK a a = false := by
  rw [ltK, bytesLess_lt]; simp [List.lt_irrefl]
theorem ltK_trans {a b c : List UInt8} (h1 : ltK a b = true) (h2 : ltK b c = true) : ltK a c = true := by
  rw [ltK, bytesLess_lt, decide_eq_true_iff] at *
  exact List.lt_trans h1 h2
theorem ltK_asymm {a b : List UInt8} (h1 : ltK a b = true) : ltK b a = false := by
  cases h : ltK b a with
  | false => rfl
  | true =>
    have := ltK_trans h1 h
    rw [ltK_irr] at this
    cases this
theorem ltK_conn {a b : List UInt8} (h1 : ltK a b = false) (h2 : ltK b a = false) : a = b := by
  rw [ltK, bytesLess_lt, decide_eq_false_iff_not, List.not_lt] at *
  exact List.le_antisymm h2 h1
def cmpN (a b : Nat) : Int := if a < b then -1 else if b < a then 1 else 0
def cmpK (a b : List UInt8) : Int := if ltK a b then -1 else if ltK b a then 1 else 0
/-- Symbols by address and name. -/
def cmpS (s t : Sy) : Int := if cmpN s.addr t.addr ≠ 0 then cmpN s.addr t.addr else cmpK s.key t.key
theorem cmpS_at {s t : Sy} (h : s.addr = t.addr) : cmpS s t = cmpK s.key t.key := by
  simp [cmpS, cmpN, h]
theorem cmpK_lt (a b : List UInt8) : decide (cmpK a b < 0) = ltK a b := by
  unfold cmpK
  cases ltK a b <;> cases ltK b a <;> rfl
def betterB (o : Option Sy) (s : Sy) : Bool := match o with | none => true | some f => ltK s.key f.key
def atStep (a : Nat) (o : Option Sy) (s : Sy) : Option Sy := if s.addr = a then if betterB o s then some s else o else o
/-- The first symbol at an address. -/
def atSy (l : List Sy) (a : Nat) : Option Sy := l.foldl (atStep a) none
def nearStep (a : Nat) (o : Option Nat) (s : Sy) : Option Nat := if s.addr ≤ a then (match o with | none => some s.addr | some b => if b < s.addr then some s.addr else some b) else o
/-- The last address of a symbol at or ahead of an address. -/
def nearA (l : List Sy) (a : Nat) : Option Nat := l.foldl (nearStep a) none
/-- The nearest symbol. -/
def nearSy (l : List Sy) (a : Nat) : Option Sy := match nearA l a with | none => none | some b => atSy l b
theorem fold_snoc {α : Type} {f : α → Sy → α} {x : α} {l : List Sy} {k : Nat} {s : Sy} (hk : l[k]? = some s) : (l.take (k + 1)).foldl f x = f ((l.take k).foldl f x) s := by
  rw [take_snoc' hk, List.foldl_append]
  rfl
theorem atFold (a : Nat) : ∀ (l : List Sy) (o : Option Sy), (∀ f, o = some f → f.addr = a) →
    (∀ s, l.foldl (atStep a) o = some s → (s ∈ l ∨ o = some s) ∧ s.addr = a ∧ (∀ t ∈ l, t.addr = a → ltK t.key s.key = false) ∧ (∀ f, o = some f → ltK f.key s.key = false)) ∧
    (l.foldl (atStep a) o = none → o = none ∧ ∀ t ∈ l, t.addr ≠ a)
  | [], o, ho => ⟨fun s h => ⟨.inr h, ho s h, by simp, fun f hf => by rw [show o = some s from h] at hf; cases hf; exact ltK_irr _⟩, fun h => ⟨h, by simp⟩⟩
  | x :: l, o, ho => by
    rw [List.foldl_cons]
    by_cases hx : x.addr = a
    · by_cases hb : betterB o x = true
      · have e : atStep a o x = some x := by rw [atStep, if_pos hx, if_pos hb]
        rw [e]
        obtain ⟨h1, h2⟩ := atFold a l (some x) (fun f hf => by cases hf; exact hx)
        refine ⟨fun s hs => ?_, fun h => by have := (h2 h).1; cases this⟩
        obtain ⟨m, ha, hmin, hf⟩ := h1 s hs
        have hxs := hf x rfl
        refine ⟨.inl ?_, ha, ?_, fun f hfo => ?_⟩
        · rcases m with m | m
          · exact List.mem_cons_of_mem _ m
          · cases m; exact List.mem_cons_self
        · intro t ht hta
          rcases List.mem_cons.1 ht with rfl | ht
          · exact hxs
          · exact hmin t ht hta
        · subst hfo
          have hlt : ltK x.key f.key = true := hb
          cases hh : ltK f.key s.key with
          | false => rfl
          | true =>
            have := ltK_trans hlt hh
            rw [hxs] at this
            cases this
      · have e : atStep a o x = o := by rw [atStep, if_pos hx, if_neg hb]
        rw [e]
        obtain ⟨h1, h2⟩ := atFold a l o ho
        obtain ⟨f, rfl⟩ : ∃ f, o = some f := by
          cases o with
          | none => exact absurd rfl hb
          | some f => exact ⟨f, rfl⟩
        have hnl : ltK x.key f.key = false := (Bool.not_eq_true _).mp hb
        refine ⟨fun s hs => ?_, fun h => by have := (h2 h).1; cases this⟩
        obtain ⟨m, ha, hmin, hf⟩ := h1 s hs
        have hfs := hf f rfl
        refine ⟨m.imp_left (List.mem_cons_of_mem _), ha, ?_, hf⟩
        intro t ht hta
        rcases List.mem_cons.1 ht with rfl | ht
        · cases hh : ltK t.key s.key with
          | false => rfl
          | true =>
            cases h3 : ltK f.key t.key with
            | true =>
              have := ltK_trans h3 hh
              rw [hfs] at this
              cases this
            | false =>
              rw [ltK_conn h3 hnl] at hfs
              rw [hh] at hfs
              cases hfs
        · exact hmin t ht hta
    · have e : atStep a o x = o := by rw [atStep, if_neg hx]
      rw [e]
      obtain ⟨h1, h2⟩ := atFold a l o ho
      refine ⟨fun s hs => ?_, fun h => ?_⟩
      · obtain ⟨m, ha, hmin, hf⟩ := h1 s hs
        refine ⟨m.imp_left (List.mem_cons_of_mem _), ha, ?_, hf⟩
        intro t ht hta
        rcases List.mem_cons.1 ht with rfl | ht
        · exact absurd hta hx
        · exact hmin t ht hta
      · obtain ⟨ho', hn⟩ := h2 h
        refine ⟨ho', fun t ht => ?_⟩
        rcases List.mem_cons.1 ht with rfl | ht
        · exact hx
        · exact hn t ht
theorem atSy_some {l : List Sy} {a : Nat} {s : Sy} (h : atSy l a = some s) : s ∈ l ∧ s.addr = a ∧ ∀ t ∈ l, t.addr = a → ltK t.key s.key = false := by
  obtain ⟨m, ha, hmin, _⟩ := (atFold a l none (by simp)).1 s h
  exact ⟨m.resolve_right (by simp), ha, hmin⟩
theorem atSy_none {l : List Sy} {a : Nat} (h : atSy l a = none) : ∀ t ∈ l, t.addr ≠ a := ((atFold a l none (by simp)).2 h).2
theorem atSy_is {l : List Sy} {a : Nat} {t : Sy} (h : t ∈ l) (ha : t.addr = a) : ∃ s, atSy l a = some s := by
  cases e : atSy l a with
  | none => exact absurd ha (atSy_none e t h)
  | some s => exact ⟨s, rfl⟩
theorem nearFold (a : Nat) : ∀ (l : List Sy) (o : Option Nat), (∀ b, o = some b → b ≤ a) →
    (∀ b, l.foldl (nearStep a) o = some b → b ≤ a ∧ ((∃ t ∈ l, t.addr = b) ∨ o = some b) ∧ (∀ t ∈ l, t.addr ≤ a → t.addr ≤ b) ∧ (∀ c, o = some c → c ≤ b)) ∧
    (l.foldl (nearStep a) o = none → o = none ∧ ∀ t ∈ l, a < t.addr)
  | [], o, ho => ⟨fun b h => ⟨ho b h, .inr h, by simp, fun c hc => by rw [show o = some b from h] at hc; cases hc; exact Nat.le_refl _⟩, fun h => ⟨h, by simp⟩⟩
  | x :: l, o, ho => by
    rw [List.foldl_cons]
    by_cases hx : x.addr ≤ a
    · by_cases hb : ∃ b, o = some b ∧ x.addr ≤ b
      · obtain ⟨b, rfl, hxb⟩ := hb
        have e : nearStep a (some b) x = some b := by unfold nearStep; rw [if_pos hx]; simp; omega
        rw [e]
        obtain ⟨h1, h2⟩ := nearFold a l (some b) ho
        refine ⟨fun c hc => ?_, fun h => by have := (h2 h).1; cases this⟩
        obtain ⟨q1, q2, q3, q4⟩ := h1 c hc
        refine ⟨q1, q2.imp_left (fun ⟨t, ht, e⟩ => ⟨t, List.mem_cons_of_mem _ ht, e⟩), ?_, q4⟩
        intro t ht hta
        rcases List.mem_cons.1 ht with rfl | ht
        · have := q4 b rfl; omega
        · exact q3 t ht hta
      · have e : nearStep a o x = some x.addr := by
          unfold nearStep
          rw [if_pos hx]
          cases o with
          | none => rfl
          | some b =>
            have : b < x.addr := by
              apply Nat.lt_of_not_le
              intro h
              exact hb ⟨b, rfl, h⟩
            simp [this]
        rw [e]
        obtain ⟨h1, h2⟩ := nearFold a l (some x.addr) (fun b hb => by cases hb; exact hx)
        refine ⟨fun c hc => ?_, fun h => by have := (h2 h).1; cases this⟩
        obtain ⟨q1, q2, q3, q4⟩ := h1 c hc
        have hxc := q4 _ rfl
        refine ⟨q1, .inl ?_, ?_, fun d hd => ?_⟩
        · rcases q2 with ⟨t, ht, e⟩ | q2
          · exact ⟨t, List.mem_cons_of_mem _ ht, e⟩
          · cases q2; exact ⟨x, List.mem_cons_self, rfl⟩
        · intro t ht hta
          rcases List.mem_cons.1 ht with rfl | ht
          · exact hxc
          · exact q3 t ht hta
        · have : ¬ x.addr ≤ d := fun h => hb ⟨d, hd, h⟩
          omega
    · have e : nearStep a o x = o := by unfold nearStep; rw [if_neg hx]
      rw [e]
      obtain ⟨h1, h2⟩ := nearFold a l o ho
      refine ⟨fun c hc => ?_, fun h => ?_⟩
      · obtain ⟨q1, q2, q3, q4⟩ := h1 c hc
        refine ⟨q1, q2.imp_left (fun ⟨t, ht, e⟩ => ⟨t, List.mem_cons_of_mem _ ht, e⟩), ?_, q4⟩
        intro t ht hta
        rcases List.mem_cons.1 ht with rfl | ht
        · omega
        · exact q3 t ht hta
      · obtain ⟨ho', hn⟩ := h2 h
        refine ⟨ho', fun t ht => ?_⟩
        rcases List.mem_cons.1 ht with rfl | ht
        · omega
        · exact hn t ht
theorem nearA_some {l : List Sy} {a b : Nat} (h : nearA l a = some b) : b ≤ a ∧ (∃ t ∈ l, t.addr = b) ∧ ∀ t ∈ l, t.addr ≤ a → t.addr ≤ b := by
  obtain ⟨q1, q2, q3, _⟩ := (nearFold a l none (by simp)).1 b h
  exact ⟨q1, q2.resolve_right (by simp), q3⟩
theorem nearA_none {l : List Sy} {a : Nat} (h : nearA l a = none) : ∀ t ∈ l, a < t.addr := ((nearFold a l none (by simp)).2 h).2
theorem nearSy_some {l : List Sy} {a : Nat} {s : Sy} (h : nearSy l a = some s) : nearA l a = some s.addr ∧ atSy l s.addr = some s ∧ s ∈ l ∧ s.addr ≤ a ∧ (∀ t ∈ l, t.addr ≤ a → t.addr ≤ s.addr) ∧ ∀ t ∈ l, t.addr = s.addr → ltK t.key s.key = false := by
  unfold nearSy at h
  cases e : nearA l a with
  | none => rw [e] at h; cases h
  | some b =>
    rw [e] at h
    obtain ⟨h1, h2, h3⟩ := atSy_some h
    obtain ⟨q1, q2, q3⟩ := nearA_some e
    subst h2
    exact ⟨rfl, h, h1, q1, q3, h3⟩
theorem nearSy_none {l : List Sy} {a : Nat} (h : nearSy l a = none) : nearA l a = none ∧ ∀ t ∈ l, a < t.addr := by
  unfold nearSy at h
  cases e : nearA l a with
  | none => exact ⟨rfl, nearA_none e⟩
  | some b =>
    rw [e] at h
    obtain ⟨q1, ⟨t, ht, hta⟩, q3⟩ := nearA_some e
    obtain ⟨s, hs⟩ := atSy_is ht hta
    rw [show atSy l b = none from h] at hs
    cases hs
end Go.Deco
