/- Lists of symbols as plain law: Check, Find. No walk. -/
import Derived.Test.YtekilcnkinmakaaDoorSpecSec
namespace Go.Deco
open Go Go.RowKit
set_option linter.unusedVariables false

/-- A symbol. -/
structure Sy where
  name : ByteArray
  addr : Nat
  kind : Int
def Sy.key (s : Sy) : List UInt8 := s.name.data.toList
theorem Sy.key_name (s : Sy) : (⟨s.key.toArray⟩ : ByteArray) = s.name := by simp [Sy.key]
theorem key_eq {a b : Sy} : a.key = b.key ↔ a.name = b.name := by
  constructor
  · intro h
    rw [← a.key_name, ← b.key_name, h]
  · intro h
    rw [Sy.key, Sy.key, h]
/-- A symbol of no kind, at address zero, without a name. -/
def Sy.zero : Sy := ⟨⟨#[]⟩, 0, 0⟩
def kindB (k : Int) : Bool := decide (k = 1) || decide (k = 2)
/-- Whether a name occurs twice: the list's front pre is known to be free of that. -/
def dupTo (pre : List Sy) : List Sy → Bool
  | [] => false
  | s :: r => (pre.map Sy.key).contains s.key || dupTo (pre ++ [s]) r
def symCheck (l : List Sy) : Nat :=
  if 256 < l.length then 6 else
  if l.all (fun s => nameB s.name) then
    if dupTo [] l then 8 else if l.all (fun s => kindB s.kind) then 0 else 2
  else 3
theorem dup_step {l : List Sy} {k : Nat} {s : Sy} (hk : l[k]? = some s) (he : ((l.take k).map Sy.key).contains s.key = false) (hF : dupTo (l.take k) (l.drop k) = dupTo [] l) : dupTo (l.take (k + 1)) (l.drop (k + 1)) = dupTo [] l := by
  rw [drop_cons' hk, dupTo, he, Bool.false_or, ← take_snoc' hk] at hF
  exact hF
theorem dup_hit {l : List Sy} {k : Nat} {s : Sy} (hk : l[k]? = some s) (he : ((l.take k).map Sy.key).contains s.key = true) (hF : dupTo (l.take k) (l.drop k) = dupTo [] l) : dupTo [] l = true := by
  rw [drop_cons' hk, dupTo, he, Bool.true_or] at hF
  exact hF.symm
theorem dup_end {l : List Sy} (hF : dupTo (l.take l.length) (l.drop l.length) = dupTo [] l) : dupTo [] l = false := by
  rw [List.drop_length, dupTo] at hF
  exact hF.symm
theorem all_step {p : Sy → Bool} {l : List Sy} {k : Nat} {s : Sy} (hk : l[k]? = some s) (hp : p s = true) (h : (l.take k).all p = true) : (l.take (k + 1)).all p = true := by
  rw [take_snoc' hk, List.all_append, h]
  simp [hp]
theorem all_hit {p : Sy → Bool} {l : List Sy} {k : Nat} {s : Sy} (hk : l[k]? = some s) (hp : p s = false) : l.all p = false := by
  rw [Bool.eq_false_iff]
  intro h
  rw [List.all_eq_true] at h
  have := h s (List.mem_of_getElem? hk)
  rw [hp] at this
  cases this
/-- The first symbol of a name. -/
def findSy (l : List Sy) (nm : List UInt8) : Option Sy := l.find? fun s => decide (s.key = nm)
theorem find_hit {l : List Sy} {nm : List UInt8} {k : Nat} {s : Sy} (hk : l[k]? = some s) (hs : s.key = nm) (hn : ∀ x ∈ l.take k, x.key ≠ nm) : findSy l nm = some s := by
  have e : l = l.take k ++ s :: l.drop (k + 1) := by rw [← drop_cons' hk, List.take_append_drop]
  have h1 : (l.take k).find? (fun s => decide (s.key = nm)) = none := by
    rw [List.find?_eq_none]
    intro x hx
    simpa using hn x hx
  unfold findSy
  rw [e, List.find?_append, h1]
  simp [hs]
theorem find_none {l : List Sy} {nm : List UInt8} (hn : ∀ x ∈ l, x.key ≠ nm) : findSy l nm = none := by
  unfold findSy
  rw [List.find?_eq_none]
  intro x hx
  simpa using hn x hx
/-- How a symbol lies in memory. -/
def symR : Rep Sy where
  size := 3
  pos := by omega
  rel _ _ cs s := cs = [.string s.name, .int .u32 s.addr, .int .i64 s.kind] ∧ s.addr < 4294967296 ∧ s.name.size ≤ maxLen ∧ -9223372036854775808 ≤ s.kind ∧ s.kind ≤ 9223372036854775807
  keep _ h := h
  mono _ h := h
  len h := by rw [h.1]; rfl
  one h u hu := by
    rw [h.1] at hu
    simp at hu
    rcases hu with rfl | rfl | rfl <;> rfl
theorem Sl.sym_at {w : World} {S : Nat → Prop} {A : Option Addr} {n c k : Nat} {l : List Sy} {s : Sy} (h : Sl symR w S (.slice A n c) l) (hk : l[k]? = some s) :
    ∃ b off, A = some ⟨b, off, none⟩ ∧ w.cell? ⟨b, off + k * 3, none⟩ = some (.string s.name) ∧ w.cell? ⟨b, off + k * 3 + 1, none⟩ = some (.int .u32 s.addr) ∧ w.cell? ⟨b, off + k * 3 + 2, none⟩ = some (.int .i64 s.kind) ∧
      s.addr < 4294967296 ∧ s.name.size ≤ maxLen ∧ -9223372036854775808 ≤ s.kind ∧ s.kind ≤ 9223372036854775807 := by
  obtain ⟨b, off, cs, hA, ⟨hcs, h1, h2, h3, h4⟩, hc⟩ := h.get hk
  subst hcs
  exact ⟨b, off, hA, by simpa [symR] using hc 0 _ rfl, hc 1 _ rfl, hc 2 _ rfl, h1, h2, h3, h4⟩
end Go.Deco
