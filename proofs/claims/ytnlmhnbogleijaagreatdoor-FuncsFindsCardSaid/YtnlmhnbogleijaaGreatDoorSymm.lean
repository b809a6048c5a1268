/- Lists of symbols as plain law: Check, Find. No walk. symbol: name, Find; decompilerref06: duplicate, Find. symbol.Check. Symbols at an address, and the nearest ones, as plain law. No walk. symbol.order, symbol.At. A symbol in a box; decompilerref06: Find. symbol.At. -/
import Derived.Test.YtnlmhnbogleijaaGreatDoorSpecSec
import Derived.Test.YtnlmhnbogleijaaGreatDoorRows
import Derived.Test.YtnlmhnbogleijaaGreatDoorMap
import Derived.Lib.Hide
import Derived.Test.YtnlmhnbogleijaaGreatDoorReg
namespace Go.Deco
open Go Go.RowKit
set_option linter.unusedVariables false

/-- A symbol. -/
structure Sy where
  name : ByteArray
  addr : Nat
  kind : Int
def Sy.key (s : Sy) : List UInt8 := s.name.data.toList
theorem Sy.key_name (s : Sy) : (⟨s.key.toArray⟩ : ByteArray) = s.name := by simp [Sy.key]
theorem key_eq {a b : Sy} : a.key = b.key ↔ a.name = b.name := by
  constructor
  · intro h
    rw [← a.key_name, ← b.key_name, h]
  · intro h
    rw [Sy.key, Sy.key, h]
/-- A symbol of no kind, at address zero, without a name. -/
def Sy.zero : Sy := ⟨⟨#[]⟩, 0, 0⟩
def kindB (k : Int) : Bool := decide (k = 1) || decide (k = 2)
/-- Whether a name occurs twice: the list's front pre is known to be free of that. -/
def dupTo (pre : List Sy) : List Sy → Bool
  | [] => false
  | s :: r => (pre.map Sy.key).contains s.key || dupTo (pre ++ [s]) r
def symCheck (l : List Sy) : Nat :=
  if 256 < l.length then 6 else
  if l.all (fun s => nameB s.name) then
    if dupTo [] l then 8 else if l.all (fun s => kindB s.kind) then 0 else 2
  else 3
theorem dup_step {l : List Sy} {k : Nat} {s : Sy} (hk : l[k]? = some s) (he : ((l.take k).map Sy.key).contains s.key = false) (hF : dupTo (l.take k) (l.drop k) = dupTo [] l) : dupTo (l.take (k + 1)) (l.drop (k + 1)) = dupTo [] l := by
  rw [drop_cons' hk, dupTo, he, Bool.false_or, ← take_snoc' hk] at hF
  exact hF
theorem dup_hit {l : List Sy} {k : Nat} {s : Sy} (hk : l[k]? = some s) (he : ((l.take k).map Sy.key).contains s.key = true) (hF : dupTo (l.take k) (l.drop k) = dupTo [] l) : dupTo [] l = true := by
  rw [drop_cons' hk, dupTo, he, Bool.true_or] at hF
  exact hF.symm
theorem dup_end {l : List Sy} (hF : dupTo (l.take l.length) (l.drop l.length) = dupTo [] l) : dupTo [] l = false := by
  rw [List.drop_length, dupTo] at hF
  exact hF.symm
theorem all_step {p : Sy → Bool} {l : List Sy} {k : Nat} {s : Sy} (hk : l[k]? = some s) (hp : p s = true) (h : (l.take k).all p = true) : (l.take (k + 1)).all p = true := by
  rw [take_snoc' hk, List.all_append, h]
  simp [hp]
theorem all_hit {p : Sy → Bool} {l : List Sy} {k : Nat} {s : Sy} (hk : l[k]? = some s) (hp : p s = false) : l.all p = false := by
  rw [Bool.eq_false_iff]
  intro h
  rw [List.all_eq_true] at h
  have := h s (List.mem_of_getElem? hk)
  rw [hp] at this
  cases this
/-- The first symbol of a name. -/
def findSy (l : List Sy) (nm : List UInt8) : Option Sy := l.find? fun s => decide (s.key = nm)
theorem find_hit {l : List Sy} {nm : List UInt8} {k : Nat} {s : Sy} (hk : l[k]? = some s) (hs : s.key = nm) (hn : ∀ x ∈ l.take k, x.key ≠ nm) : findSy l nm = some s := by
  have e : l = l.take k ++ s :: l.drop (k + 1) := by rw [← drop_cons' hk, List.take_append_drop]
  have h1 : (l.take k).find? (fun s => decide (s.key = nm)) = none := by
    rw [List.find?_eq_none]
    intro x hx
    simpa using hn x hx
  unfold findSy
  rw [e, List.find?_append, h1]
  simp [hs]
theorem find_none {l : List Sy} {nm : List UInt8} (hn : ∀ x ∈ l, x.key ≠ nm) : findSy l nm = none := by
  unfold findSy
  rw [List.find?_eq_none]
  intro x hx
  simpa using hn x hx
/-- How a symbol lies in memory. -/
def symR : Rep Sy where
  size := 3
  pos := by omega
  rel _ _ cs s := cs = [.string s.name, .int .u32 s.addr, .int .i64 s.kind] ∧ s.addr < 4294967296 ∧ s.name.size ≤ maxLen ∧ -9223372036854775808 ≤ s.kind ∧ s.kind ≤ 9223372036854775807
  keep _ h := h
  mono _ h := h
  len h := by rw [h.1]; rfl
  one h u hu := by
    rw [h.1] at hu
    simp at hu
    rcases hu with rfl | rfl | rfl <;> rfl
theorem Sl.sym_at {w : World} {S : Nat → Prop} {A : Option Addr} {n c k : Nat} {l : List Sy} {s : Sy} (h : Sl symR w S (.slice A n c) l) (hk : l[k]? = some s) :
    ∃ b off, A = some ⟨b, off, none⟩ ∧ w.cell? ⟨b, off + k * 3, none⟩ = some (.string s.name) ∧ w.cell? ⟨b, off + k * 3 + 1, none⟩ = some (.int .u32 s.addr) ∧ w.cell? ⟨b, off + k * 3 + 2, none⟩ = some (.int .i64 s.kind) ∧
      s.addr < 4294967296 ∧ s.name.size ≤ maxLen ∧ -9223372036854775808 ≤ s.kind ∧ s.kind ≤ 9223372036854775807 := by
  obtain ⟨b, off, cs, hA, ⟨hcs, h1, h2, h3, h4⟩, hc⟩ := h.get hk
  subst hcs
  exact ⟨b, off, hA, by simpa [symR] using hc 0 _ rfl, hc 1 _ rfl, hc 2 _ rfl, h1, h2, h3, h4⟩
end Go.Deco

namespace Go.Proofs.YtnlmhnbogleijaaGreatDoor
open Go.RowKit Go.Deco
set_option linter.unusedSimpArgs false
set_option linter.unusedVariables false


theorem key_list (s : ByteArray) : s.toList = s.data.toList := ByteArray.toList_eq s
theorem str_eq (a b : ByteArray) : (a.toList == b.toList) = decide (a.data.toList = b.data.toList) := by
  rw [ByteArray.toList_eq, ByteArray.toList_eq, Bool.eq_iff_iff, beq_iff_eq, decide_eq_true_iff]
def syVal (s : Sy) : Value := .agg #[.string s.name, .int .u32 s.addr, .int .i64 s.kind]
/-- A symbol and whether there is one. -/
def SyIs (w : World) (o : Option Sy) (e : Ending) (w' : World) : Prop := Ext w w' ∧ e = .returned (.tuple #[syVal (o.getD Sy.zero), .bool o.isSome])

end Go.Proofs.YtnlmhnbogleijaaGreatDoor

namespace Go.Proofs.YtnlmhnbogleijaaGreatDoor
open Go.RowKit Go.Deco
set_option linter.unusedSimpArgs false
set_option linter.unusedVariables false

theorem zero_boolS : ∀ w, (zeroValue 4).run Tryz.prog w = .ok (.bool false) w := fun w => by kernel_rfl
/-- The names seen, as a map to bool. -/
def seenF (l : List Sy) : List UInt8 → Option Value := fun x => if (l.map Sy.key).contains x then some (.bool true) else none
theorem seenF_look (l : List Sy) (x : List UInt8) (b : Bool) (h : (l.map Sy.key).contains x = b) : (seenF l x).getD (.bool false) = .bool b := by
  unfold seenF
  rw [h]
  cases b <;> rfl
theorem seenF_snoc (l : List Sy) (s : Sy) : ∀ x, seenF (l ++ [s]) x = if x = s.key then some (.bool true) else seenF l x := by
  intro x
  unfold seenF
  by_cases h : x = s.key
  · subst h
    rw [if_pos rfl, if_pos (by simp)]
  · rw [if_neg h]
    have : ((l ++ [s]).map Sy.key).contains x = (l.map Sy.key).contains x := by
      rw [Bool.eq_iff_iff]
      simp only [List.contains_iff_mem, List.map_append, List.mem_append, List.map_cons, List.map_nil, List.mem_singleton]
      exact ⟨fun hh => hh.resolve_right h, .inl⟩
    rw [this]
theorem symCheck_many {l : List Sy} (h : 256 < l.length) : symCheck l = 6 := by rw [symCheck, if_pos h]
theorem symCheck_name {l : List Sy} {k : Nat} {s : Sy} (h : ¬ 256 < l.length) (hk : l[k]? = some s) (hn : nameB s.name = false) : symCheck l = 3 := by
  rw [symCheck, if_neg h, all_hit (p := fun s => nameB s.name) hk hn]
  rfl
theorem symCheck_dup {l : List Sy} (h : ¬ 256 < l.length) (ha : l.all (fun s => nameB s.name) = true) (hd : dupTo [] l = true) : symCheck l = 8 := by
  rw [symCheck, if_neg h, ha, hd]
  rfl
theorem symCheck_kind {l : List Sy} {k : Nat} {s : Sy} (h : ¬ 256 < l.length) (ha : l.all (fun s => nameB s.name) = true) (hd : dupTo [] l = false) (hk : l[k]? = some s) (hn : kindB s.kind = false) : symCheck l = 2 := by
  rw [symCheck, if_neg h, ha, hd, all_hit (p := fun s => kindB s.kind) hk hn]
  rfl
theorem symCheck_ok {l : List Sy} (h : ¬ 256 < l.length) (ha : l.all (fun s => nameB s.name) = true) (hd : dupTo [] l = false) (hn : l.all (fun s => kindB s.kind) = true) : symCheck l = 0 := by
  rw [symCheck, if_neg h, ha, hd, hn]
  rfl
/-- A small number. -/
def ErrIs (w : World) (n : Nat) (e : Ending) (w' : World) : Prop := e = .returned (.int .i64 n) ∧ Ext w w'

end Go.Proofs.YtnlmhnbogleijaaGreatDoor

namespace Go.Deco
open Go Go.RowKit
set_option linter.unusedVariables false

theorem bytesLess_lt : ∀ (x y : List UInt8), Op.bytesLess x y = decide (x < y)
  | [], [] => by simp [Op.bytesLess]
  | [], y :: ys => by simp [Op.bytesLess]
  | x :: xs, [] => by simp [Op.bytesLess]
  | x :: xs, y :: ys => by
    rw [Op.bytesLess, bytesLess_lt xs ys]
    rw [Bool.eq_iff_iff]
    simp [List.cons_lt_cons_iff]
/-- Whether one name stands ahead of another. -/
def ltK (a b : List UInt8) : Bool := Op.bytesLess a b
theorem ltK_irr (a : List UInt8) : ltK a a = false := by
  rw [ltK, bytesLess_lt]; simp [List.lt_irrefl]
theorem ltK_trans {a b c : List UInt8} (h1 : ltK a b = true) (h2 : ltK b c = true) : ltK a c = true := by
  rw [ltK, bytesLess_lt, decide_eq_true_iff] at *
  exact List.lt_trans h1 h2
theorem ltK_asymm {a b : List UInt8} (h1 : ltK a b = true) : ltK b a = false := by
  cases h : ltK b a with
  | false => rfl
  | true =>
    have := ltK_trans h1 h
    rw [ltK_irr] at this
    cases this
theorem ltK_conn {a b : List UInt8} (h1 : ltK a b = false) (h2 : ltK b a = false) : a = b := by
  rw [ltK, bytesLess_lt, decide_eq_false_iff_not, List.not_lt] at *
  exact List.le_antisymm h2 h1
def cmpN (a b : Nat) : Int := if a < b then -1 else if b < a then 1 else 0
def cmpK (a b : List UInt8) : Int := if ltK a b then -1 else if ltK b a then 1 else 0
/-- Symbols by address and name. -/
def cmpS (s t : Sy) : Int := if cmpN s.addr t.addr ≠ 0 then cmpN s.addr t.addr else cmpK s.key t.key
theorem cmpS_at {s t : Sy} (h : s.addr = t.addr) : cmpS s t = cmpK s.key t.key := by
  simp [cmpS, cmpN, h]
theorem cmpK_lt (a b : List UInt8) : decide (cmpK a b < 0) = ltK a b := by
  unfold cmpK
  cases ltK a b <;> cases ltK b a <;> rfl
def betterB (o : Option Sy) (s : Sy) : Bool := match o with | none => true | some f => ltK s.key f.key
def atStep (a : Nat) (o : Option Sy) (s : Sy) : Option Sy := if s.addr = a then if betterB o s then some s else o else o
/-- The first symbol at an address. -/
def atSy (l : List Sy) (a : Nat) : Option Sy := l.foldl (atStep a) none
def nearStep (a : Nat) (o : Option Nat) (s : Sy) : Option Nat := if s.addr ≤ a then (match o with | none => some s.addr | some b => if b < s.addr then some s.addr else some b) else o
/-- The last address of a symbol at or ahead of an address. -/
def nearA (l : List Sy) (a : Nat) : Option Nat := l.foldl (nearStep a) none
/-- The nearest symbol. -/
def nearSy (l : List Sy) (a : Nat) : Option Sy := match nearA l a with | none => none | some b => atSy l b
theorem fold_snoc {α : Type} {f : α → Sy → α} {x : α} {l : List Sy} {k : Nat} {s : Sy} (hk : l[k]? = some s) : (l.take (k + 1)).foldl f x = f ((l.take k).foldl f x) s := by
  rw [take_snoc' hk, List.foldl_append]
  rfl
theorem atFold (a : Nat) : ∀ (l : List Sy) (o : Option Sy), (∀ f, o = some f → f.addr = a) →
    (∀ s, l.foldl (atStep a) o = some s → (s ∈ l ∨ o = some s) ∧ s.addr = a ∧ (∀ t ∈ l, t.addr = a → ltK t.key s.key = false) ∧ (∀ f, o = some f → ltK f.key s.key = false)) ∧
    (l.foldl (atStep a) o = none → o = none ∧ ∀ t ∈ l, t.addr ≠ a)
  | [], o, ho => ⟨fun s h => ⟨.inr h, ho s h, by simp, fun f hf => by rw [show o = some s from h] at hf; cases hf; exact ltK_irr _⟩, fun h => ⟨h, by simp⟩⟩
  | x :: l, o, ho => by
    rw [List.foldl_cons]
    by_cases hx : x.addr = a
    · by_cases hb : betterB o x = true
      · have e : atStep a o x = some x := by rw [atStep, if_pos hx, if_pos hb]
        rw [e]
        obtain ⟨h1, h2⟩ := atFold a l (some x) (fun f hf => by cases hf; exact hx)
        refine ⟨fun s hs => ?_, fun h => by have := (h2 h).1; cases this⟩
        obtain ⟨m, ha, hmin, hf⟩ := h1 s hs
        have hxs := hf x rfl
        refine ⟨.inl ?_, ha, ?_, fun f hfo => ?_⟩
        · rcases m with m | m
          · exact List.mem_cons_of_mem _ m
          · cases m; exact List.mem_cons_self
        · intro t ht hta
          rcases List.mem_cons.1 ht with rfl | ht
          · exact hxs
          · exact hmin t ht hta
        · subst hfo
          have hlt : ltK x.key f.key = true := hb
          cases hh : ltK f.key s.key with
          | false => rfl
          | true =>
            have := ltK_trans hlt hh
            rw [hxs] at this
            cases this
      · have e : atStep a o x = o := by rw [atStep, if_pos hx, if_neg hb]
        rw [e]
        obtain ⟨h1, h2⟩ := atFold a l o ho
        obtain ⟨f, rfl⟩ : ∃ f, o = some f := by
          cases o with
          | none => exact absurd rfl hb
          | some f => exact ⟨f, rfl⟩
        have hnl : ltK x.key f.key = false := (Bool.not_eq_true _).mp hb
        refine ⟨fun s hs => ?_, fun h => by have := (h2 h).1; cases this⟩
        obtain ⟨m, ha, hmin, hf⟩ := h1 s hs
        have hfs := hf f rfl
        refine ⟨m.imp_left (List.mem_cons_of_mem _), ha, ?_, hf⟩
        intro t ht hta
        rcases List.mem_cons.1 ht with rfl | ht
        · cases hh : ltK t.key s.key with
          | false => rfl
          | true =>
            cases h3 : ltK f.key t.key with
            | true =>
              have := ltK_trans h3 hh
              rw [hfs] at this
              cases this
            | false =>
              rw [ltK_conn h3 hnl] at hfs
              rw [hh] at hfs
              cases hfs
        · exact hmin t ht hta
    · have e : atStep a o x = o := by rw [atStep, if_neg hx]
      rw [e]
      obtain ⟨h1, h2⟩ := atFold a l o ho
      refine ⟨fun s hs => ?_, fun h => ?_⟩
      · obtain ⟨m, ha, hmin, hf⟩ := h1 s hs
        refine ⟨m.imp_left (List.mem_cons_of_mem _), ha, ?_, hf⟩
        intro t ht hta
        rcases List.mem_cons.1 ht with rfl | ht
        · exact absurd hta hx
        · exact hmin t ht hta
      · obtain ⟨ho', hn⟩ := h2 h
        refine ⟨ho', fun t ht => ?_⟩
        rcases List.mem_cons.1 ht with rfl | ht
        · exact hx
        · exact hn t ht
theorem atSy_some {l : List Sy} {a : Nat} {s : Sy} (h : atSy l a = some s) : s ∈ l ∧ s.addr = a ∧ ∀ t ∈ l, t.addr = a → ltK t.key s.key = false := by
  obtain ⟨m, ha, hmin, _⟩ := (atFold a l none (by simp)).1 s h
  exact ⟨m.resolve_right (by simp), ha, hmin⟩
theorem atSy_none {l : List Sy} {a : Nat} (h : atSy l a = none) : ∀ t ∈ l, t.addr ≠ a := ((atFold a l none (by simp)).2 h).2
theorem atSy_is {l : List Sy} {a : Nat} {t : Sy} (h : t ∈ l) (ha : t.addr = a) : ∃ s, atSy l a = some s := by
  cases e : atSy l a with
  | none => exact absurd ha (atSy_none e t h)
  | some s => exact ⟨s, rfl⟩
theorem nearFold (a : Nat) : ∀ (l : List Sy) (o : Option Nat), (∀ b, o = some b → b ≤ a) →
    (∀ b, l.foldl (nearStep a) o = some b → b ≤ a ∧ ((∃ t ∈ l, t.addr = b) ∨ o = some b) ∧ (∀ t ∈ l, t.addr ≤ a → t.addr ≤ b) ∧ (∀ c, o = some c → c ≤ b)) ∧
    (l.foldl (nearStep a) o = none → o = none ∧ ∀ t ∈ l, a < t.addr)
  | [], o, ho => ⟨fun b h => ⟨ho b h, .inr h, by simp, fun c hc => by rw [show o = some b from h] at hc; cases hc; exact Nat.le_refl _⟩, fun h => ⟨h, by simp⟩⟩
  | x :: l, o, ho => by
    rw [List.foldl_cons]
    by_cases hx : x.addr ≤ a
    · by_cases hb : ∃ b, o = some b ∧ x.addr ≤ b
      · obtain ⟨b, rfl, hxb⟩ := hb
        have e : nearStep a (some b) x = some b := by unfold nearStep; rw [if_pos hx]; simp; omega
        rw [e]
        obtain ⟨h1, h2⟩ := nearFold a l (some b) ho
        refine ⟨fun c hc => ?_, fun h => by have := (h2 h).1; cases this⟩
        obtain ⟨q1, q2, q3, q4⟩ := h1 c hc
        refine ⟨q1, q2.imp_left (fun ⟨t, ht, e⟩ => ⟨t, List.mem_cons_of_mem _ ht, e⟩), ?_, q4⟩
        intro t ht hta
        rcases List.mem_cons.1 ht with rfl | ht
        · have := q4 b rfl; omega
        · exact q3 t ht hta
      · have e : nearStep a o x = some x.addr := by
          unfold nearStep
          rw [if_pos hx]
          cases o with
          | none => rfl
          | some b =>
            have : b < x.addr := by
              apply Nat.lt_of_not_le
              intro h
              exact hb ⟨b, rfl, h⟩
            simp [this]
        rw [e]
        obtain ⟨h1, h2⟩ := nearFold a l (some x.addr) (fun b hb => by cases hb; exact hx)
        refine ⟨fun c hc => ?_, fun h => by have := (h2 h).1; cases this⟩
        obtain ⟨q1, q2, q3, q4⟩ := h1 c hc
        have hxc := q4 _ rfl
        refine ⟨q1, .inl ?_, ?_, fun d hd => ?_⟩
        · rcases q2 with ⟨t, ht, e⟩ | q2
          · exact ⟨t, List.mem_cons_of_mem _ ht, e⟩
          · cases q2; exact ⟨x, List.mem_cons_self, rfl⟩
        · intro t ht hta
          rcases List.mem_cons.1 ht with rfl | ht
          · exact hxc
          · exact q3 t ht hta
        · have : ¬ x.addr ≤ d := fun h => hb ⟨d, hd, h⟩
          omega
    · have e : nearStep a o x = o := by unfold nearStep; rw [if_neg hx]
      rw [e]
      obtain ⟨h1, h2⟩ := nearFold a l o ho
      refine ⟨fun c hc => ?_, fun h => ?_⟩
      · obtain ⟨q1, q2, q3, q4⟩ := h1 c hc
        refine ⟨q1, q2.imp_left (fun ⟨t, ht, e⟩ => ⟨t, List.mem_cons_of_mem _ ht, e⟩), ?_, q4⟩
        intro t ht hta
        rcases List.mem_cons.1 ht with rfl | ht
        · omega
        · exact q3 t ht hta
      · obtain ⟨ho', hn⟩ := h2 h
        refine ⟨ho', fun t ht => ?_⟩
        rcases List.mem_cons.1 ht with rfl | ht
        · omega
        · exact hn t ht
theorem nearA_some {l : List Sy} {a b : Nat} (h : nearA l a = some b) : b ≤ a ∧ (∃ t ∈ l, t.addr = b) ∧ ∀ t ∈ l, t.addr ≤ a → t.addr ≤ b := by
  obtain ⟨q1, q2, q3, _⟩ := (nearFold a l none (by simp)).1 b h
  exact ⟨q1, q2.resolve_right (by simp), q3⟩
theorem nearA_none {l : List Sy} {a : Nat} (h : nearA l a = none) : ∀ t ∈ l, a < t.addr := ((nearFold a l none (by simp)).2 h).2
theorem nearSy_some {l : List Sy} {a : Nat} {s : Sy} (h : nearSy l a = some s) : nearA l a = some s.addr ∧ atSy l s.addr = some s ∧ s ∈ l ∧ s.addr ≤ a ∧ (∀ t ∈ l, t.addr ≤ a → t.addr ≤ s.addr) ∧ ∀ t ∈ l, t.addr = s.addr → ltK t.key s.key = false := by
  unfold nearSy at h
  cases e : nearA l a with
  | none => rw [e] at h; cases h
  | some b =>
    rw [e] at h
    obtain ⟨h1, h2, h3⟩ := atSy_some h
    obtain ⟨q1, q2, q3⟩ := nearA_some e
    subst h2
    exact ⟨rfl, h, h1, q1, q3, h3⟩
theorem nearSy_none {l : List Sy} {a : Nat} (h : nearSy l a = none) : nearA l a = none ∧ ∀ t ∈ l, a < t.addr := by
  unfold nearSy at h
  cases e : nearA l a with
  | none => exact ⟨rfl, nearA_none e⟩
  | some b =>
    rw [e] at h
    obtain ⟨q1, ⟨t, ht, hta⟩, q3⟩ := nearA_some e
    obtain ⟨s, hs⟩ := atSy_is ht hta
    rw [show atSy l b = none from h] at hs
    cases hs
end Go.Deco

namespace Go.Proofs.YtnlmhnbogleijaaGreatDoor
open Go.RowKit Go.Deco
set_option linter.unusedSimpArgs false
set_option linter.unusedVariables false

def IntSame (w : World) (n : Int) (e : Ending) (w' : World) : Prop := e = .returned (.int .i64 n) ∧ w = w'
set_option maxRecDepth 100000 in
set_option maxHeartbeats 400000 in
theorem nanu_any (w : World) (x : Nat) : Calls Tryz.prog 90 #[.int .u32 x] w fun e w' => e = .returned (.bool false) ∧ w = w' := by
  go_enter Tryz.func90, Tryz.ntmps90
  go_wp2
  go_ret
  exact ⟨by simp, rfl⟩
set_option maxRecDepth 100000 in
set_option maxHeartbeats 400000 in
theorem nans_any (w : World) (x : ByteArray) : Calls Tryz.prog 93 #[.string x] w fun e w' => e = .returned (.bool false) ∧ w = w' := by
  go_enter Tryz.func93, Tryz.ntmps93
  go_wp2
  go_ret
  exact ⟨by simp, rfl⟩
set_option maxRecDepth 100000 in
set_option maxHeartbeats 400000 in
theorem cmpu_any (w : World) (x y : Nat) : Calls Tryz.prog 78 #[.int .u32 x, .int .u32 y] w (IntSame w (cmpN x y)) := by
  obtain ⟨z, hz⟩ : ∃ z, cmpN x y = z := ⟨_, rfl⟩
  rw [hz]
  unfold cmpN at hz
  by_cases h1 : x < y
  · rw [if_pos h1] at hz
    subst hz
    go_enter Tryz.func78, Tryz.ntmps78
    go_wp2_with (go_at_call 90; refine (nanu_any _ _).mono ?_; rintro e w' ⟨rfl, rfl⟩)
    go_ret
    exact ⟨rfl, rfl⟩
  · rw [if_neg h1] at hz
    by_cases h2 : y < x
    · rw [if_pos h2] at hz
      subst hz
      go_enter Tryz.func78, Tryz.ntmps78
      go_wp2_with (go_at_call 90; refine (nanu_any _ _).mono ?_; rintro e w' ⟨rfl, rfl⟩)
      go_ret
      exact ⟨rfl, rfl⟩
    · rw [if_neg h2] at hz
      subst hz
      go_enter Tryz.func78, Tryz.ntmps78
      go_wp2_with (go_at_call 90; refine (nanu_any _ _).mono ?_; rintro e w' ⟨rfl, rfl⟩)
      go_ret
      exact ⟨rfl, rfl⟩
theorem gt_str (a b : ByteArray) : (!(Op.bytesLess a.toList b.toList || a.toList == b.toList)) = ltK b.data.toList a.data.toList := by
  rw [key_list, key_list]
  show (!(ltK a.data.toList b.data.toList || _)) = _
  cases h1 : ltK a.data.toList b.data.toList with
  | true => rw [ltK_asymm h1]; rfl
  | false =>
    cases h2 : ltK b.data.toList a.data.toList with
    | true =>
      have : (a.data.toList == b.data.toList) = false := by
        rw [beq_eq_false_iff_ne]
        intro e
        rw [e, ltK_irr] at h2
        cases h2
      rw [this]
      rfl
    | false =>
      have := ltK_conn h1 h2
      simp [this]
theorem lt_str (a b : ByteArray) : Op.bytesLess a.toList b.toList = ltK a.data.toList b.data.toList := by rw [key_list, key_list]; rfl
set_option maxRecDepth 100000 in
set_option maxHeartbeats 400000 in
theorem cmps_any (w : World) (x y : ByteArray) : Calls Tryz.prog 79 #[.string x, .string y] w (IntSame w (cmpK x.data.toList y.data.toList)) := by
  obtain ⟨z, hz⟩ : ∃ z, cmpK x.data.toList y.data.toList = z := ⟨_, rfl⟩
  rw [hz]
  unfold cmpK at hz
  obtain ⟨b1, h1⟩ : ∃ b1, ltK x.data.toList y.data.toList = b1 := ⟨_, rfl⟩
  obtain ⟨b2, h2⟩ : ∃ b2, ltK y.data.toList x.data.toList = b2 := ⟨_, rfl⟩
  have e1 : Op.bytesLess x.toList y.toList = b1 := by rw [lt_str, h1]
  have e2 : (!(Op.bytesLess x.toList y.toList || x.toList == y.toList)) = b2 := by rw [gt_str, h2]
  rw [h1, h2] at hz
  rw [e1] at e2
  clear h1 h2
  cases b1
  · cases b2
    · simp at hz
      subst hz
      rw [Bool.false_or] at e2
      go_enter Tryz.func79, Tryz.ntmps79
      go_wp2_with (go_at_call 93; refine (nans_any _ _).mono ?_; rintro e w' ⟨rfl, rfl⟩)
      go_ret
      exact ⟨rfl, rfl⟩
    · simp at hz
      subst hz
      rw [Bool.false_or] at e2
      go_enter Tryz.func79, Tryz.ntmps79
      go_wp2_with (go_at_call 93; refine (nans_any _ _).mono ?_; rintro e w' ⟨rfl, rfl⟩)
      go_ret
      exact ⟨rfl, rfl⟩
  · simp at hz
    subst hz
    clear e2
    go_enter Tryz.func79, Tryz.ntmps79
    go_wp2_with (go_at_call 93; refine (nans_any _ _).mono ?_; rintro e w' ⟨rfl, rfl⟩)
    go_ret
    exact ⟨rfl, rfl⟩
set_option maxRecDepth 100000 in
set_option maxHeartbeats 400000 in
theorem or_any (w : World) (b : Nat) (x y : Int) (c0 : w.cell? ⟨b, 0, none⟩ = some (.int .i64 x)) (c1 : w.cell? ⟨b, 1, none⟩ = some (.int .i64 y)) :
    Calls Tryz.prog 77 #[.slice (some ⟨b, 0, none⟩) 2 2] w (IntSame w (if x ≠ 0 then x else y)) := by
  obtain ⟨z, hz⟩ : ∃ z, (if x ≠ 0 then x else y) = z := ⟨_, rfl⟩
  rw [hz]
  have HZ := hid hz; clear hz
  go_enter Tryz.func77, Tryz.ntmps77
  go_wp2
  go_loop [8] (fun i => ∃ k : Nat, k ≤ 2 ∧ i = .int .i64 k ∧ Hid (0 < k → x = 0) ∧ Hid (1 < k → y = 0)) (fun i => 2 - (intOf i).toNat)
  case atStart => exact ⟨0, by omega, rfl, hid (by omega), hid (by omega)⟩
  case round =>
    obtain ⟨k, hk, rfl, H0, H1⟩ := hrel
    obtain rfl | rfl | rfl : k = 0 ∨ k = 1 ∨ k = 2 := by omega
    · by_cases hx : x = 0
      · have HX := hid hx
        subst hx
        go_wp2
        first
          | go_round
          | refine ⟨?rel, ?measure⟩
        case rel => exact ⟨1, by omega, by first | rfl | go_num, hid (by simp), hid (by omega)⟩
        case measure => simp [intOf]
      · have HX := hid hx
        have hx' : (x != 0) = true := by simpa using hx
        clear hx
        go_wp2
        go_ret
        exact ⟨ret_int (by rw [← HZ.out, if_pos HX.out]), rfl⟩
    · have hx := H0.out (by omega)
      by_cases hy : y = 0
      · have HX := hid hx
        have HY := hid hy
        clear hx
        subst hy
        go_wp2
        first
          | go_round
          | refine ⟨?rel, ?measure⟩
        case rel => exact ⟨2, by omega, by first | rfl | go_num, hid (fun _ => HX.out), hid (by simp)⟩
        case measure => simp [intOf]
      · have HX := hid hx
        have hy' : (y != 0) = true := by simpa using hy
        clear hx hy
        go_wp2
        go_ret
        exact ⟨ret_int (by rw [← HZ.out, if_neg (by have := HX.out; simpa using this)]), rfl⟩
    · have HX := hid (H0.out (by omega))
      have HY := hid (H1.out (by omega))
      go_wp2
      go_ret
      exact ⟨ret_int (by rw [← HZ.out, if_neg (by have := HX.out; simpa using this), HY.out]), rfl⟩
set_option maxRecDepth 100000 in
set_option maxHeartbeats 1000000 in
theorem syorder_any (w : World) (s t : Sy) : Calls Tryz.prog 58 #[syVal s, syVal t] w fun e w' => e = .returned (.int .i64 (cmpS s t)) ∧ Ext w w' := by
  obtain ⟨z, hz⟩ : ∃ z, cmpS s t = z := ⟨_, rfl⟩
  rw [hz]
  have HZ := hid hz; clear hz
  unfold syVal
  obtain ⟨sk, hsk⟩ : ∃ sk, s.kind = sk := ⟨_, rfl⟩
  obtain ⟨tk, htk⟩ : ∃ tk, t.kind = tk := ⟨_, rfl⟩
  rw [hsk, htk]
  clear hsk htk
  obtain ⟨W0, hW0⟩ : ∃ W0, (w.alloc (.cells #[.string s.name, .int .u32 s.addr, .int .i64 sk] 48)).alloc (.cells #[.string t.name, .int .u32 t.addr, .int .i64 tk] 48) = W0 := ⟨_, rfl⟩
  have hE0 : Ext w W0 := by rw [← hW0]; exact ((Ext.refl w).alloc _).alloc _
  have c0 : W0.cell? ⟨w.heap.size, 0, none⟩ = some (.string s.name) := by rw [← hW0]; simp [go_sem]
  have c1 : W0.cell? ⟨w.heap.size, 1, none⟩ = some (.int .u32 s.addr) := by rw [← hW0]; simp [go_sem]
  have d0 : W0.cell? ⟨w.heap.size + 1, 0, none⟩ = some (.string t.name) := by rw [← hW0]; simp [go_sem]
  have d1 : W0.cell? ⟨w.heap.size + 1, 1, none⟩ = some (.int .u32 t.addr) := by rw [← hW0]; simp [go_sem]
  have HE0 := hid hE0
  clear hE0
  go_enter Tryz.func58, Tryz.ntmps58
  go_wp2_with fail
  clear hW0
  refine wp_region_held_drew (S := (fun w' => w'.cell? ⟨w.heap.size, 0, none⟩ = some (.string s.name) ∧ w'.cell? ⟨w.heap.size, 1, none⟩ = some (.int .u32 s.addr) ∧ w'.cell? ⟨w.heap.size + 1, 0, none⟩ = some (.string t.name) ∧ w'.cell? ⟨w.heap.size + 1, 1, none⟩ = some (.int .u32 t.addr))) (by kernel_rfl) ⟨c0, c1, d0, d1⟩ (fun hSR0 => ?_)
  refine wpAnyH_takeL (i := 0) (v := ?Rv0) rfl (by kernel_rfl) (by kernel_rfl) (by kernel_rfl) (fun _ _ _ h => h) (Or.inl ⟨by rfl, ?Ry0⟩) (by assumption) ?Rr0
  case Ry0 => first | (intro w hSw; (try dsimp only at hSw); go_simp; done) | (intro w hSw; (try dsimp only at hSw); go_simp; with_reducible rfl)
  case' Rr0 => try simp only [Act.put, List.setIfInBounds_toArray, List.set_cons_zero, List.set_cons_succ]
  refine wpAnyH_takeL (i := 1) (v := ?Rv1) rfl (by kernel_rfl) (by kernel_rfl) (by kernel_rfl) (fun _ _ _ h => h) (Or.inl ⟨by rfl, ?Ry1⟩) (by assumption) ?Rr1
  case Ry1 => first | (intro w hSw; (try dsimp only at hSw); go_simp; done) | (intro w hSw; (try dsimp only at hSw); go_simp; with_reducible rfl)
  case' Rr1 => try simp only [Act.put, List.setIfInBounds_toArray, List.set_cons_zero, List.set_cons_succ]
  refine wpAnyH_takeL (i := 2) (v := ?Rv2) rfl (by kernel_rfl) (by kernel_rfl) (by kernel_rfl) (fun _ _ _ h => h) (Or.inl ⟨by rfl, ?Ry2⟩) (by assumption) ?Rr2
  case Ry2 => first | (intro w hSw; (try dsimp only at hSw); go_simp; done) | (intro w hSw; (try dsimp only at hSw); go_simp; with_reducible rfl)
  case' Rr2 => try simp only [Act.put, List.setIfInBounds_toArray, List.set_cons_zero, List.set_cons_succ]
  refine wpAnyH_takeL (i := 3) (v := ?Rv3) rfl (by kernel_rfl) (by kernel_rfl) (by kernel_rfl) (fun _ _ _ h => h) (Or.inl ⟨by rfl, ?Ry3⟩) (by assumption) ?Rr3
  case Ry3 => first | (intro w hSw; (try dsimp only at hSw); go_simp; done) | (intro w hSw; (try dsimp only at hSw); go_simp; with_reducible rfl)
  case' Rr3 => try simp only [Act.put, List.setIfInBounds_toArray, List.set_cons_zero, List.set_cons_succ]
  refine wpAnyH_takeL (i := 5) (v := ?Rv5) rfl (by kernel_rfl) (by kernel_rfl) (by kernel_rfl) (fun _ _ _ h => h) (Or.inl ⟨by rfl, ?Ry5⟩) (by assumption) ?Rr5
  case Ry5 => first | (intro w hSw; (try dsimp only at hSw); go_simp; done) | (intro w hSw; (try dsimp only at hSw); go_simp; with_reducible rfl)
  case' Rr5 => try simp only [Act.put, List.setIfInBounds_toArray, List.set_cons_zero, List.set_cons_succ]
  refine wpAnyH_takeL (i := 6) (v := ?Rv6) rfl (by kernel_rfl) (by kernel_rfl) (by kernel_rfl) (fun _ _ _ h => h) (Or.inl ⟨by rfl, ?Ry6⟩) (by assumption) ?Rr6
  case Ry6 => first | (intro w hSw; (try dsimp only at hSw); go_simp; done) | (intro w hSw; (try dsimp only at hSw); go_simp; with_reducible rfl)
  case' Rr6 => try simp only [Act.put, List.setIfInBounds_toArray, List.set_cons_zero, List.set_cons_succ]
  refine wpAnyH_takeL (i := 7) (v := ?Rv7) rfl (by kernel_rfl) (by kernel_rfl) (by kernel_rfl) (fun _ _ _ h => h) (Or.inl ⟨by rfl, ?Ry7⟩) (by assumption) ?Rr7
  case Ry7 => first | (intro w hSw; (try dsimp only at hSw); go_simp; done) | (intro w hSw; (try dsimp only at hSw); go_simp; with_reducible rfl)
  case' Rr7 => try simp only [Act.put, List.setIfInBounds_toArray, List.set_cons_zero, List.set_cons_succ]
  refine wpAnyH_takeL (i := 8) (v := ?Rv8) rfl (by kernel_rfl) (by kernel_rfl) (by kernel_rfl) (fun _ _ _ h => h) (Or.inl ⟨by rfl, ?Ry8⟩) (by assumption) ?Rr8
  case Ry8 => first | (intro w hSw; (try dsimp only at hSw); go_simp; done) | (intro w hSw; (try dsimp only at hSw); go_simp; with_reducible rfl)
  case' Rr8 => try simp only [Act.put, List.setIfInBounds_toArray, List.set_cons_zero, List.set_cons_succ]
  refine wpAnyH_ready (rs := [4]) (by kernel_rfl) (by simp) ?_
  refine AllReadyH.consL rfl (fun K hK => ?_) AllReadyH.nil
  go_simp
  go_at_call 78
  refine (cmpu_any _ _ _).mono ?_
  rintro e w3 ⟨rfl, rfl⟩
  refine hK.out _ _ ⟨c0, c1, d0, d1⟩ (fun hSR1 => ?_)
  clear hK K
  try simp only [Act.put, List.setIfInBounds_toArray, List.set_cons_zero, List.set_cons_succ]
  refine wpAnyH_ready (rs := [9]) (by kernel_rfl) (by simp) ?_
  refine AllReadyH.consL rfl (fun K hK => ?_) AllReadyH.nil
  go_simp
  go_at_call 79
  refine (cmps_any _ _ _).mono ?_
  rintro e w3 ⟨rfl, rfl⟩
  refine hK.out _ _ ⟨c0, c1, d0, d1⟩ (fun hSR2 => ?_)
  clear hK K
  try simp only [Act.put, List.setIfInBounds_toArray, List.set_cons_zero, List.set_cons_succ]
  refine wpAnyH_ready (rs := [10]) (by kernel_rfl) (by simp) ?_
  refine AllReadyH.consL rfl (fun K hK => ?_) AllReadyH.nil
  go_simp
  refine hK.out _ _ ⟨(((Ext.refl W0).alloc _).drew).cell c0, (((Ext.refl W0).alloc _).drew).cell c1, (((Ext.refl W0).alloc _).drew).cell d0, (((Ext.refl W0).alloc _).drew).cell d1⟩ (fun hSR3 => ?_)
  clear hK K
  try simp only [Act.put, List.setIfInBounds_toArray, List.set_cons_zero, List.set_cons_succ]
  refine wpAnyH_ready (rs := [11]) (by kernel_rfl) (by simp) ?_
  refine AllReadyH.consL rfl (fun K hK => ?_) AllReadyH.nil
  go_simp
  go_at_call 77
  refine (or_any _ W0.heap.size (cmpN s.addr t.addr) (cmpK s.name.data.toList t.name.data.toList) (by simp [go_sem]) (by simp [go_sem])).mono ?_
  rintro e w3 ⟨rfl, rfl⟩
  rw [show (if cmpN s.addr t.addr ≠ 0 then cmpN s.addr t.addr else cmpK s.name.data.toList t.name.data.toList) = z from HZ.out]
  refine hK.out _ _ ⟨(((Ext.refl W0).alloc _).drew).cell c0, (((Ext.refl W0).alloc _).drew).cell c1, (((Ext.refl W0).alloc _).drew).cell d0, (((Ext.refl W0).alloc _).drew).cell d1⟩ (fun hSR4 => ?_)
  clear hK K
  try simp only [Act.put, List.setIfInBounds_toArray, List.set_cons_zero, List.set_cons_succ]
  refine wpAnyH_takeL (i := 12) (v := ?Rv12) rfl (by kernel_rfl) (by kernel_rfl) (by kernel_rfl) (fun _ _ _ h => h) (Or.inl ⟨by rfl, ?Ry12⟩) (by assumption) ?Rr12
  case Ry12 => first | (intro w hSw; (try dsimp only at hSw); go_simp; done) | (intro w hSw; (try dsimp only at hSw); go_simp; with_reducible rfl)
  case' Rr12 => try simp only [Act.put, List.setIfInBounds_toArray, List.set_cons_zero, List.set_cons_succ]
  refine wpAnyH_done (by kernel_rfl) ?_ _
  go_wp2
  go_ret
  exact ⟨rfl, HE0.out.trans (((Ext.refl W0).alloc _).drew)⟩
end Go.Proofs.YtnlmhnbogleijaaGreatDoor

namespace Go.Proofs.YtnlmhnbogleijaaGreatDoor
open Go.RowKit Go.Deco
set_option linter.unusedSimpArgs false
set_option linter.unusedVariables false

/-- A symbol in the three cells of a box. -/
def SyAt (w : World) (b : Nat) (s : Sy) : Prop :=
  w.cell? ⟨b, 0, none⟩ = some (.string s.name) ∧ w.cell? ⟨b, 1, none⟩ = some (.int .u32 s.addr) ∧ w.cell? ⟨b, 2, none⟩ = some (.int .i64 s.kind) ∧ ∀ i, w.frozen? ⟨b, i, none⟩ = false
def put3 (w : World) (b : Nat) (s : Sy) : World := ((w.setCell ⟨b, 0, none⟩ (.string s.name)).setCell ⟨b, 1, none⟩ (.int .u32 s.addr)).setCell ⟨b, 2, none⟩ (.int .i64 s.kind)
theorem SyAt.lt {w : World} {b : Nat} {s : Sy} (h : SyAt w b s) : b < w.heap.size := World.block_lt_of_cell? _ _ h.1
theorem SyAt.ext {w w' : World} {b : Nat} {s : Sy} (h : SyAt w b s) (he : Ext w w') : SyAt w' b s :=
  ⟨he.cell h.1, he.cell h.2.1, he.cell h.2.2.1, fun i => (he.frozen (p := ⟨b, i, none⟩) h.lt).trans (h.2.2.2 i)⟩
theorem SyAt.new (w : World) (s : Sy) (t : TypeId) : SyAt (w.alloc (.cells #[.string s.name, .int .u32 s.addr, .int .i64 s.kind] t)) w.heap.size s :=
  ⟨by simp [go_sem], by simp [go_sem], by simp [go_sem], fun i => by simp [go_sem]⟩
theorem SyAt.put {w : World} {b : Nat} {x s : Sy} (h : SyAt w b x) : SyAt (put3 w b s) b s := by
  obtain ⟨h0, h1, h2, h3⟩ := h
  refine ⟨?_, ?_, ?_, fun i => ?_⟩
  · simp [put3, World.cell?_setCell_same, World.cell?_setCell_other, h0, h1, h2]
  · simp [put3, World.cell?_setCell_same, World.cell?_setCell_other, h0, h1, h2]
  · simp [put3, World.cell?_setCell_same, World.cell?_setCell_other, h0, h1, h2]
  · simp [put3, h3]
theorem SyAt.putO {w : World} {b c : Nat} {x s : Sy} (h : SyAt w b x) (hne : b ≠ c) : SyAt (put3 w c s) b x := by
  obtain ⟨h0, h1, h2, h3⟩ := h
  refine ⟨?_, ?_, ?_, fun i => ?_⟩
  · simp [put3, World.cell?_setCell_other, h0, hne, Ne.symm hne]
  · simp [put3, World.cell?_setCell_other, h1, hne, Ne.symm hne]
  · simp [put3, World.cell?_setCell_other, h2, hne, Ne.symm hne]
  · simp [put3, h3]
theorem ext_put3 {w0 w : World} {b : Nat} {s : Sy} (h : Ext w0 w) (hb : w0.heap.size ≤ b) : Ext w0 (put3 w b s) := ((h.setCell hb _).setCell hb _).setCell hb _
theorem sl_put3 {E : Type} {R : Rep E} {w : World} {S : Nat → Prop} {v : Value} {l : List E} {b : Nat} {s : Sy} (h : Sl R w S v l) (hS : ∀ c, S c → c ≠ b) : Sl R (put3 w b s) S v l :=
  h.keep fun c hc _ => by rw [put3, Below.heap_setCell _ _ _ c (hS c hc), Below.heap_setCell _ _ _ c (hS c hc), Below.heap_setCell _ _ _ c (hS c hc)]
end Go.Proofs.YtnlmhnbogleijaaGreatDoor

namespace Go.Proofs.YtnlmhnbogleijaaGreatDoor
open Go.RowKit Go.Deco
set_option linter.unusedSimpArgs false
set_option linter.unusedVariables false

end Go.Proofs.YtnlmhnbogleijaaGreatDoor

namespace Go.Proofs.YtnlmhnbogleijaaGreatDoor
open Go.RowKit Go.Deco
set_option linter.unusedSimpArgs false
set_option linter.unusedVariables false

set_option maxRecDepth 100000 in
set_option maxHeartbeats 2000000 in
theorem syat_any (w : World) (A : Option Addr) (n c : Nat) (l : List Sy) (hl : Sl symR w All (.slice A n c) l) (a : Nat) :
    Calls Tryz.prog 39 #[.slice A n c, .int .u32 a] w (SyIs w (atSy l a)) := by
  have hln := hl.len
  obtain ⟨hnc, hcm⟩ := hl.cap
  obtain ⟨o, ho⟩ : ∃ o, atSy l a = o := ⟨_, rfl⟩
  rw [ho]
  have HO := hid ho
  obtain ⟨W0, hW0⟩ : ∃ W0, (w.alloc (.cells #[.string ⟨#[]⟩, .int .u32 0, .int .i64 0] 48)).alloc (.cells #[.string ⟨#[]⟩, .int .u32 0, .int .i64 0] 48) = W0 := ⟨_, rfl⟩
  have hE0 : Ext w W0 := by rw [← hW0]; exact ((Ext.refl w).alloc _).alloc _
  have hr0 : SyAt W0 w.heap.size Sy.zero := by
    rw [← hW0]
    exact (SyAt.new w Sy.zero 48).ext ((Ext.refl _).alloc _)
  have hf0 : SyAt W0 (w.heap.size + 1) Sy.zero := by
    rw [← hW0]
    have := SyAt.new (w.alloc (.cells #[.string ⟨#[]⟩, .int .u32 0, .int .i64 0] 48)) Sy.zero 48
    rw [World.size_alloc] at this
    exact this
  have hs0 : w.heap.size + 1 < W0.heap.size := by rw [← hW0]; simp
  have HE0 := hid hE0
  have HR0 := hid hr0
  have HF0 := hid hf0
  have HS0 := hid hs0
  have HL := hid hl
  have HLN := hid hln
  clear ho hE0 hr0 hf0 hl hln hs0
  go_enter Tryz.func39, Tryz.ntmps39
  go_wp2
  clear hW0
  go_loopw [12, 7] (fun i ok wr => ∃ (k : Nat) (f : Option Sy), k ≤ n ∧ i = .int .i64 k ∧ ok = .bool f.isSome ∧ Hid ((l.take k).foldl (atStep a) none = f) ∧ Hid (Ext w wr) ∧ Hid (SyAt wr w.heap.size Sy.zero) ∧ Hid (SyAt wr (w.heap.size + 1) (f.getD Sy.zero)) ∧ Hid (∀ x, f = some x → x.addr = a)) (fun i _ _ => n - (intOf i).toNat)
  case atStart => exact ⟨0, none, by omega, rfl, rfl, hid rfl, HE0, HR0, HF0, hid (by simp)⟩
  case round =>
    obtain ⟨k, f, hk, rfl, rfl, HF, HX, HR, HB, HAD⟩ := hrel
    by_cases h1 : k < n
    · obtain ⟨s, hs⟩ : ∃ s, l[k]? = some s := ⟨_, List.getElem?_eq_getElem (by have := HLN.out; omega)⟩
      obtain ⟨b, off, rfl, c0, c1, c2, ha32, -, -, -⟩ := Sl.sym_at (HL.out.ext HX.out) hs
      have hfs := fold_snoc (f := atStep a) (x := none) hs
      rw [HF.out] at hfs
      have HFS := hid hfs
      have HBR := hid HB.out.lt
      have HAL := hid (SyAt.new wr s 48)
      clear hs hfs
      by_cases h2 : s.addr = a
      · subst h2
        cases f with
        | none =>
          have HF2 : Hid ((l.take (k + 1)).foldl (atStep s.addr) none = some s) := hid (by rw [HFS.out, atStep, if_pos rfl]; rfl)
          obtain ⟨z0, z1, z2, z3⟩ := HB.out
          have hbr := HBR.out
          go_wp2
          first
            | go_roundw
            | refine ⟨?rel, ?measure⟩
          case rel => exact ⟨k + 1, some s, by omega, by go_num, rfl, HF2, hid ((ext_put3 HX.out (by omega)).alloc _), hid ((HR.out.putO (s := s) (by omega)).ext ((Ext.refl _).alloc _)), hid ((HB.out.put (s := s)).ext ((Ext.refl _).alloc _)), hid (fun x hx => by cases hx; rfl)⟩
          case measure => simp [intOf]; omega
        | some f =>
          have hfa := HAD.out f rfl
          obtain ⟨z0, z1, z2, z3⟩ := HB.out
          simp only [Option.getD_some] at z0 z1 z2
          rw [hfa] at z1
          have HFA := hid hfa
          have hbr := HBR.out
          have hcm0 : cmpS s f = cmpK s.key f.key := cmpS_at hfa.symm
          obtain ⟨r, hr⟩ : ∃ r, ltK s.key f.key = r := ⟨_, rfl⟩
          have hcl : decide (cmpS s f < 0) = r := by rw [hcm0, cmpK_lt, hr]
          have HCL := hid hcl
          have HR1 := hid hr
          have HFS2 : Hid ((l.take (k + 1)).foldl (atStep s.addr) none = if r then some s else some f) := hid (by
            rw [HFS.out, atStep, if_pos rfl]
            show (if ltK s.key f.key = true then _ else _) = _
            rw [hr])
          clear hfa hcl hr hcm0
          by_cases hq : s.name.toList = f.name.toList ∧ s.kind = f.kind
          · obtain ⟨q1, q2⟩ := hq
            have q3 : (s.name.toList == f.name.toList) = true := by simpa using q1
            have q4 : (s.kind == f.kind) = true := by simpa using q2
            obtain rfl : r = false := by
              rw [← HR1.out, Sy.key, Sy.key, ← key_list, ← key_list, q1, ltK_irr]
            go_wp2
            first
              | go_roundw
              | refine ⟨?rel, ?measure⟩
            case rel => exact ⟨k + 1, some f, by omega, by go_num, rfl, HFS2, hid (HX.out.alloc _), hid (HR.out.ext ((Ext.refl _).alloc _)), hid (HB.out.ext ((Ext.refl _).alloc _)), hid (fun x hx => by cases hx; exact HFA.out)⟩
            case measure => simp [intOf]; omega
          · have hcall := fun (w : World) => syorder_any w s f
            unfold syVal at hcall
            rw [HFA.out] at hcall
            have HCA := hid hcall
            clear hcall
            by_cases q1 : s.name.toList = f.name.toList
            · have q2 : ¬ s.kind = f.kind := fun h => hq ⟨q1, h⟩
              clear hq
              go_wp2_with fail
              refine (HCA.out _).mono ?_
              rintro e w1 ⟨rfl, hx⟩
              have HX1 := hid (((Ext.refl wr).alloc (.cells #[.string s.name, .int .u32 s.addr, .int .i64 s.kind] 48)).trans hx)
              have HA1 := hid (HAL.out.ext hx)
              have HB1 := hid (HB.out.ext HX1.out)
              have HR2 := hid (HR.out.ext HX1.out)
              obtain ⟨z, hz⟩ : ∃ z, cmpS s f = z := ⟨_, rfl⟩
              have hzr : decide (z < 0) = r := by rw [← hz]; exact HCL.out
              rw [hz]
              clear hx hz z0 z1 z2 z3
              obtain ⟨y0, y1, y2, -⟩ := HA1.out
              obtain ⟨z0, z1, z2, z3⟩ := HB1.out
              simp only [Option.getD_some] at z0 z1 z2
              rw [HFA.out] at z1
              have hbr1 := HB1.out.lt
              have hbr2 := HA1.out.lt
              have hne : w.heap.size + 1 < wr.heap.size := hbr
              cases r with
              | false =>
                go_wp2
                first
                  | go_roundw
                  | refine ⟨?rel, ?measure⟩
                case rel => exact ⟨k + 1, some f, by omega, by go_num, rfl, HFS2, hid (HX.out.trans HX1.out), HR2, HB1, hid (fun x hx => by cases hx; exact HFA.out)⟩
                case measure => simp [intOf]; omega
              | true =>
                go_wp2
                first
                  | go_roundw
                  | refine ⟨?rel, ?measure⟩
                case rel => exact ⟨k + 1, some s, by omega, by go_num, rfl, HFS2, hid (ext_put3 (HX.out.trans HX1.out) (by omega)), hid (HR2.out.putO (s := s) (by omega)), hid (HB1.out.put (s := s)), hid (fun x hx => by cases hx; rfl)⟩
                case measure => simp [intOf]; omega
            · have q2 : (s.name.toList == f.name.toList) = false := by simpa using q1
              clear hq
              go_wp2_with fail
              refine (HCA.out _).mono ?_
              rintro e w1 ⟨rfl, hx⟩
              have HX1 := hid (((Ext.refl wr).alloc (.cells #[.string s.name, .int .u32 s.addr, .int .i64 s.kind] 48)).trans hx)
              have HA1 := hid (HAL.out.ext hx)
              have HB1 := hid (HB.out.ext HX1.out)
              have HR2 := hid (HR.out.ext HX1.out)
              obtain ⟨z, hz⟩ : ∃ z, cmpS s f = z := ⟨_, rfl⟩
              have hzr : decide (z < 0) = r := by rw [← hz]; exact HCL.out
              rw [hz]
              clear hx hz z0 z1 z2 z3
              obtain ⟨y0, y1, y2, -⟩ := HA1.out
              obtain ⟨z0, z1, z2, z3⟩ := HB1.out
              simp only [Option.getD_some] at z0 z1 z2
              rw [HFA.out] at z1
              have hbr1 := HB1.out.lt
              have hbr2 := HA1.out.lt
              have hne : w.heap.size + 1 < wr.heap.size := hbr
              cases r with
              | false =>
                go_wp2
                first
                  | go_roundw
                  | refine ⟨?rel, ?measure⟩
                case rel => exact ⟨k + 1, some f, by omega, by go_num, rfl, HFS2, hid (HX.out.trans HX1.out), HR2, HB1, hid (fun x hx => by cases hx; exact HFA.out)⟩
                case measure => simp [intOf]; omega
              | true =>
                go_wp2
                first
                  | go_roundw
                  | refine ⟨?rel, ?measure⟩
                case rel => exact ⟨k + 1, some s, by omega, by go_num, rfl, HFS2, hid (ext_put3 (HX.out.trans HX1.out) (by omega)), hid (HR2.out.putO (s := s) (by omega)), hid (HB1.out.put (s := s)), hid (fun x hx => by cases hx; rfl)⟩
                case measure => simp [intOf]; omega
      · have HF2 : Hid ((l.take (k + 1)).foldl (atStep a) none = f) := hid (by rw [HFS.out, atStep, if_neg h2])
        have h2' : ((s.addr : Int) == a) = false := by simp; omega
        obtain ⟨z0, z1, z2, z3⟩ := HB.out
        go_wp2
        first
          | go_roundw
          | refine ⟨?rel, ?measure⟩
        case rel => exact ⟨k + 1, f, by omega, by go_num, rfl, HF2, hid (HX.out.alloc _), hid (HR.out.ext ((Ext.refl _).alloc _)), hid (HB.out.ext ((Ext.refl _).alloc _)), HAD⟩
        case measure => simp [intOf]; omega
    · obtain rfl : k = n := by omega
      have hfo : f = o := by
        rw [← HF.out, ← HO.out, List.take_of_length_le (by have := HLN.out; omega)]
        rfl
      subst hfo
      obtain ⟨r0, r1, r2, r3⟩ := HR.out
      obtain ⟨z0, z1, z2, z3⟩ := HB.out
      have hlt := HB.out.lt
      go_wp2
      refine bodyPost_ret (v := .tuple #[syVal (f.getD Sy.zero), .bool f.isSome]) (by simp [results, Tryz.results39, go_sem, World.cell?_setCell_same, World.cell?_setCell_other, r0, r1, r2, syVal]) rfl ?_
      exact ⟨ext_put3 HX.out (Nat.le_refl _), rfl⟩
end Go.Proofs.YtnlmhnbogleijaaGreatDoor
