/- Chapter 17 as plain law: code, targets, leaders, blocks. No program in sight. -/
import Derived.Test.YtolbnhkdpbdhhaaIsaL
import Derived.Test.YtolbnhkdpbdhhaaAsc
namespace Go.Proofs.Ytolbnhkdpbdhhaa
open Go Go.RowKit Go.Deco
set_option linter.unusedVariables false
set_option linter.unusedSimpArgs false

/-- The first instruction at an address. -/
def firstIn (l : List In) (a : Nat) : Option In := l.find? fun i => decide (i.addr = a)
def hasIn (l : List In) (a : Nat) : Bool := (firstIn l a).isSome
theorem firstIn_addr {l : List In} {a : Nat} {i : In} (h : firstIn l a = some i) : i.addr = a ∧ i ∈ l := by
  unfold firstIn at h
  exact ⟨by simpa using List.find?_some h, List.mem_of_find?_eq_some h⟩
theorem firstIn_snoc_old {l : List In} {k : Nat} {i x : In} {a : Nat} (hk : l[k]? = some i) (h : firstIn (l.take k) i.addr = some x) : firstIn (l.take (k + 1)) a = firstIn (l.take k) a := by
  unfold firstIn at *
  rw [take_snoc' hk, List.find?_append]
  cases h2 : (l.take k).find? (fun i => decide (i.addr = a)) with
  | some y => simp
  | none =>
    by_cases e : i.addr = a
    · subst e
      rw [h] at h2
      cases h2
    · simp [e]
theorem firstIn_snoc_new {l : List In} {k : Nat} {i : In} {a : Nat} (hk : l[k]? = some i) (h : firstIn (l.take k) i.addr = none) : firstIn (l.take (k + 1)) a = if a = i.addr then some i else firstIn (l.take k) a := by
  unfold firstIn at *
  rw [take_snoc' hk, List.find?_append]
  by_cases e : a = i.addr
  · subst e
    rw [h]
    simp
  · rw [if_neg e]
    cases h2 : (l.take k).find? (fun i => decide (i.addr = a)) with
    | some y => simp
    | none =>
      have e' : ¬ i.addr = a := fun h => e h.symm
      simp [e']
/-- The table of an address. -/
def tabOf (tables : List (List Nat)) (at_ : List Nat) (a : Nat) : Option (List Nat) :=
  match at_.findIdx? (fun x => x == a) with
  | some k => tables[k]?
  | none => none
/-- The targets of an instruction. -/
def tgtI (tables : List (List Nat)) (at_ : List Nat) (i : In) : List Nat :=
  if i.op = 20 then [i.imm] else if i.op = 21 ∨ i.op = 22 then (tabOf tables at_ i.addr).getD [] else []
/-- The addresses that an instruction makes leaders. -/
def candI (tables : List (List Nat)) (at_ : List Nat) (i : In) : List Nat := tgtI tables at_ i ++ (if stopsI i then [nextI i] else [])
/-- All addresses that may be leaders. -/
def Cand (ins : List In) (entries : List Nat) (tables : List (List Nat)) (at_ : List Nat) (x : Nat) : Prop :=
  x ∈ entries ∨ ∃ a i, firstIn ins a = some i ∧ x ∈ candI tables at_ i
end Go.Proofs.Ytolbnhkdpbdhhaa
