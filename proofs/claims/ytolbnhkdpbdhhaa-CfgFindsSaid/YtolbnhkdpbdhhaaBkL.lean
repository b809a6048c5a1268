/- Chapter 17: a block as plain law. -/
import Derived.Test.YtolbnhkdpbdhhaaCfgD
import Derived.Test.YtolbnhkdpbdhhaaCfgM
namespace Go.Proofs.Ytolbnhkdpbdhhaa
open Go.RowKit Go.Deco
set_option linter.unusedSimpArgs false
set_option linter.unusedVariables false

/-- Whether a block ends behind an instruction at an address. -/
def stopB (ins : List In) (ld : List Nat) (a : Nat) (i : In) : Bool := stopsI i || (ld.contains (nextI i) || (!hasIn ins (nextI i) || decide (nextI i ≤ a)))
/-- The instructions of a block from an address on. -/
def blkIns (ins : List In) (ld : List Nat) : Nat → Nat → List In
  | 0, _ => []
  | f + 1, a => match firstIn ins a with
    | none => []
    | some i => if stopB ins ld a i then [i] else i :: blkIns ins ld f (nextI i)
theorem stopB_next {ins : List In} {ld : List Nat} {a : Nat} {i : In} (h : stopB ins ld a i = false) : a < nextI i ∧ hasIn ins (nextI i) = true := by
  unfold stopB at h
  simp only [Bool.or_eq_false_iff, Bool.not_eq_false', decide_eq_false_iff_not] at h
  exact ⟨by omega, h.2.2.1⟩
theorem blkIns_fuel {ins : List In} {ld : List Nat} : ∀ (f g a : Nat), 4294967296 - a ≤ f → 4294967296 - a ≤ g → a < 4294967296 → blkIns ins ld f a = blkIns ins ld g a
  | 0, _, a, h1, _, h3 => by omega
  | f + 1, 0, a, _, h2, h3 => by omega
  | f + 1, g + 1, a, h1, h2, h3 => by
    rw [blkIns, blkIns]
    cases firstIn ins a with
    | none => rfl
    | some i =>
      simp only []
      cases hs : stopB ins ld a i with
      | true => rfl
      | false =>
        have := (stopB_next hs).1
        have := nextI_lt i
        rw [if_neg (by simp), if_neg (by simp), blkIns_fuel f g (nextI i) (by omega) (by omega) (by omega)]
def blkFrom (ins : List In) (ld : List Nat) (a : Nat) : List In := blkIns ins ld (4294967296 - a) a
theorem blkFrom_stop {ins : List In} {ld : List Nat} {a : Nat} {i : In} (ha : a < 4294967296) (hi : firstIn ins a = some i) (h : stopB ins ld a i = true) : blkFrom ins ld a = [i] := by
  unfold blkFrom
  obtain ⟨f, hf⟩ : ∃ f, 4294967296 - a = f + 1 := ⟨4294967296 - a - 1, by omega⟩
  rw [hf, blkIns, hi]
  simp only []
  rw [if_pos h]
theorem blkFrom_next {ins : List In} {ld : List Nat} {a : Nat} {i : In} (ha : a < 4294967296) (hi : firstIn ins a = some i) (h : stopB ins ld a i = false) : blkFrom ins ld a = i :: blkFrom ins ld (nextI i) := by
  have h1 := (stopB_next h).1
  have h2 := nextI_lt i
  unfold blkFrom
  obtain ⟨f, hf⟩ : ∃ f, 4294967296 - a = f + 1 := ⟨4294967296 - a - 1, by omega⟩
  rw [hf, blkIns, hi]
  simp only []
  rw [if_neg (by rw [h]; simp), blkIns_fuel f (4294967296 - nextI i) (nextI i) (by omega) (by omega) h2]
/-- The known targets of the calls among instructions. -/
def callsL (tabs : List (List Nat)) (at_ : List Nat) (l : List In) : List (List Nat) := (l.filter fun i => decide (i.op = 24)).map fun i => (tabOf tabs at_ i.addr).getD []
theorem callsL_hit {tabs : List (List Nat)} {at_ : List Nat} {l : List In} {i : In} (h : i.op = 24) : callsL tabs at_ (l ++ [i]) = callsL tabs at_ l ++ [(tabOf tabs at_ i.addr).getD []] := by simp [callsL, h]
theorem callsL_miss {tabs : List (List Nat)} {at_ : List Nat} {l : List In} {i : In} (h : ¬ i.op = 24) : callsL tabs at_ (l ++ [i]) = callsL tabs at_ l := by simp [callsL, h]
theorem callsL_len (tabs : List (List Nat)) (at_ : List Nat) (l : List In) : (callsL tabs at_ l).length ≤ l.length := by
  unfold callsL
  rw [List.length_map]
  exact List.length_filter_le _ _
/-- The successors behind an instruction. -/
def succL (ins : List In) (tabs : List (List Nat)) (at_ : List Nat) (i : In) : List Nat := (tgtI tabs at_ i ++ (if endsI i then [] else [nextI i])).filter (hasIn ins)
/-- The block of a leader. -/
def blockBs (ins : List In) (ld : List Nat) (tabs : List (List Nat)) (at_ : List Nat) (a : Nat) : Bs :=
  let l := blkFrom ins ld a
  let z := (l.getLast?).getD In.zero
  ⟨a, nextI z, l, succL ins tabs at_ z, callsL tabs at_ l⟩
/-- Blocks: the blocks and the error. -/
def indL (i : In) : Bool := decide (i.op = 21) || decide (i.op = 22)
def lastOf (b : Bs) : In := (b.ins.getLast?).getD In.zero
def badB (tabs : List (List Nat)) (at_ : List Nat) (b : Bs) : Bool := indL (lastOf b) && (tabOf tabs at_ (lastOf b).addr).isNone
def blocksR (ins : List In) (entries : List Nat) (tabs : List (List Nat)) (at_ : List Nat) : List Bs × Nat :=
  let ld := leadL ins entries tabs at_
  if 256 < ld.length then ([], 6) else
  if (ld.map (blockBs ins ld tabs at_)).any (badB tabs at_) then ([], 19) else (ld.map (blockBs ins ld tabs at_), 0)
theorem leadL_has {ins : List In} {entries : List Nat} {tabs : List (List Nat)} {at_ : List Nat} {x : Nat} (h : x ∈ leadL ins entries tabs at_) : ∃ i, firstIn ins x = some i := by
  unfold leadL at h
  rw [asc_mem, List.mem_filter] at h
  exact Option.isSome_iff_exists.1 h.2
end Go.Proofs.Ytolbnhkdpbdhhaa
