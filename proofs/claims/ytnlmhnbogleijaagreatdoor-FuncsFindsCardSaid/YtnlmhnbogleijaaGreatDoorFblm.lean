/- Functions out of blocks, as plain law: which blocks a function has, which calls, whether it is a leaf. No walk. Functions out of blocks, as plain law: the work list of the reference; what a function's calls and leaf are, block by block. No walk. -/
import Derived.Test.YtnlmhnbogleijaaGreatDoorCfgm
import Derived.Test.YtnlmhnbogleijaaGreatDoorInsm
namespace Go.Proofs.YtnlmhnbogleijaaGreatDoor
open Go.RowKit Go.Deco
set_option linter.unusedSimpArgs false
set_option linter.unusedVariables false

/-- The first block at an address. -/
def blkA (b : List Bs) (a : Nat) : Option Bs := b.find? fun x => decide (x.addr = a)
def isB (b : List Bs) (a : Nat) : Bool := (blkA b a).isSome
theorem blkA_mem {b : List Bs} {a : Nat} {s : Bs} (h : blkA b a = some s) : s ∈ b ∧ s.addr = a := by
  unfold blkA at h
  exact ⟨List.mem_of_find?_eq_some h, by simpa using List.find?_some h⟩
theorem isB_addr {b : List Bs} {a : Nat} (h : isB b a = true) : a ∈ b.map Bs.addr := by
  obtain ⟨s, hs⟩ := Option.isSome_iff_exists.1 h
  obtain ⟨h1, h2⟩ := blkA_mem hs
  exact List.mem_map.2 ⟨s, h1, h2⟩
theorem isB_some {b : List Bs} {a : Nat} {s : Bs} (h : blkA b a = some s) : isB b a = true := by unfold isB; rw [h]; rfl
/-- The blocks to which a block leads. -/
inductive ReachB (b : List Bs) (a : Nat) : Nat → Prop
  | refl : isB b a = true → ReachB b a a
  | step {x y : Nat} {s : Bs} : ReachB b a x → blkA b x = some s → y ∈ s.succ → isB b y = true → ReachB b a y
theorem ReachB.trans {b : List Bs} {a y x : Nat} (h : ReachB b a y) (k : ReachB b y x) : ReachB b a x := by
  induction k with
  | refl _ => exact h
  | step _ hs hy hb ih => exact .step ih hs hy hb
theorem ReachB.ends {b : List Bs} {a x : Nat} (h : ReachB b a x) : isB b x = true := by
  cases h with
  | refl h => exact h
  | step _ _ _ h => exact h
theorem ReachB.start {b : List Bs} {a x : Nat} (h : ReachB b a x) : isB b a = true := by
  induction h with
  | refl h => exact h
  | step _ _ _ _ ih => exact ih
theorem ReachB.closed {b : List Bs} {a : Nat} {S : Nat → Prop} (h0 : isB b a = true → S a) (hs : ∀ x s y, S x → blkA b x = some s → y ∈ s.succ → isB b y = true → S y) {x : Nat} (h : ReachB b a x) : S x := by
  induction h with
  | refl h => exact h0 h
  | step _ hb hy hi ih => exact hs _ _ _ ih hb hy hi
/-- The calls of a block, and whether it has any call. -/
def ownCalls (s : Bs) : List Nat := (s.ins.filter fun i => decide (i.op = 23)).map In.imm ++ s.calls.flatten
def ownLeaf (s : Bs) : Bool := s.ins.all fun i => !decide (i.op = 23) && !decide (i.op = 24)
def CallsAt (b : List Bs) (x c : Nat) : Prop := ∃ s, blkA b x = some s ∧ c ∈ ownCalls s
def LeafAt (b : List Bs) (x : Nat) : Prop := ∀ s, blkA b x = some s → ownLeaf s = true

def adS (S : Nat → Bool) (a : Nat) : Nat → Bool := fun x => S x || decide (x = a)
theorem adS_iff {S : Nat → Bool} {a x : Nat} : adS S a x = true ↔ S x = true ∨ x = a := by simp [adS]
/-- What a visit of an address has done. -/
structure VisB (b : List Bs) (a : Nat) (S S' : Nat → Bool) (C C' : List Nat) (L L' : Bool) : Prop where
  sub : ∀ x, S x = true → S' x = true
  has : isB b a = true → S' a = true
  reach : ∀ x, S' x = true → S x = true ∨ ReachB b a x
  closed : ∀ x, S' x = true → S x = true ∨ ∀ s, blkA b x = some s → ∀ y ∈ s.succ, isB b y = true → S' y = true
  calls : ∀ c, c ∈ C' ↔ c ∈ C ∨ ∃ x, S' x = true ∧ S x = false ∧ CallsAt b x c
  leaf : L' = true ↔ L = true ∧ ∀ x, S' x = true → S x = false → LeafAt b x
theorem VisB.same {b : List Bs} {a : Nat} {S : Nat → Bool} {C : List Nat} {L : Bool} (h : isB b a = true → S a = true) : VisB b a S S C C L L :=
  ⟨fun _ h => h, h, fun _ h => .inl h, fun _ h => .inl h, fun c => ⟨.inl, fun h => h.elim id fun ⟨x, h1, h2, _⟩ => by rw [h1] at h2; cases h2⟩, ⟨fun h => ⟨h, fun x h1 h2 => by rw [h1] at h2; cases h2⟩, fun h => h.1⟩⟩
/-- Its successors are under way. -/
structure VisBL (b : List Bs) (a : Nat) (s : Bs) (S S' : Nat → Bool) (C C' : List Nat) (L L' : Bool) (j : Nat) : Prop where
  sub : ∀ x, adS S a x = true → S' x = true
  reach : ∀ x, S' x = true → S x = true ∨ ReachB b a x
  closed : ∀ x, S' x = true → adS S a x = true ∨ ∀ s, blkA b x = some s → ∀ y ∈ s.succ, isB b y = true → S' y = true
  done : ∀ i, i < j → ∀ y, s.succ[i]? = some y → isB b y = true → S' y = true
  calls : ∀ c, c ∈ C' ↔ c ∈ C ∨ ∃ x, S' x = true ∧ S x = false ∧ CallsAt b x c
  leaf : L' = true ↔ L = true ∧ ∀ x, S' x = true → S x = false → LeafAt b x
theorem VisBL.start {b : List Bs} {a : Nat} {s : Bs} {S : Nat → Bool} {C : List Nat} {L : Bool} (hs : blkA b a = some s) (hn : S a = false) : VisBL b a s S (adS S a) C (C ++ ownCalls s) L (L && ownLeaf s) 0 := by
  have key : ∀ x, adS S a x = true → S x = false → x = a := fun x h1 h2 => by
    rcases adS_iff.1 h1 with h | h
    · rw [h] at h2; cases h2
    · exact h
  refine ⟨fun _ h => h, fun x h => ?_, fun _ h => .inl h, fun i hi => by omega, fun c => ?_, ?_⟩
  · rcases adS_iff.1 h with h | rfl
    · exact .inl h
    · exact .inr (.refl (isB_some hs))
  · rw [List.mem_append]
    constructor
    · rintro (h | h)
      · exact .inl h
      · exact .inr ⟨a, adS_iff.2 (.inr rfl), hn, s, hs, h⟩
    · rintro (h | ⟨x, h1, h2, t, ht, hc⟩)
      · exact .inl h
      · obtain rfl := key x h1 h2
        rw [hs] at ht
        cases ht
        exact .inr hc
  · rw [Bool.and_eq_true]
    constructor
    · rintro ⟨h1, h2⟩
      refine ⟨h1, fun x h3 h4 t ht => ?_⟩
      obtain rfl := key x h3 h4
      rw [hs] at ht
      cases ht
      exact h2
    · rintro ⟨h1, h2⟩
      exact ⟨h1, h2 a (adS_iff.2 (.inr rfl)) hn s hs⟩
theorem VisBL.step {b : List Bs} {a : Nat} {s : Bs} {S S1 S2 : Nat → Bool} {C C1 C2 : List Nat} {L L1 L2 : Bool} {j y : Nat} (h : VisBL b a s S S1 C C1 L L1 j) (hs : blkA b a = some s) (hy : s.succ[j]? = some y) (hv : VisB b y S1 S2 C1 C2 L1 L2) : VisBL b a s S S2 C C2 L L2 (j + 1) := by
  have hym := List.mem_of_getElem? hy
  have old : ∀ x, S x = true → S1 x = true := fun x hx => h.sub x (adS_iff.2 (.inl hx))
  refine ⟨fun x hx => hv.sub x (h.sub x hx), fun x hx => ?_, fun x hx => ?_, fun i hi z hz hb => ?_, fun c => ?_, ?_⟩
  · rcases hv.reach x hx with h1 | h1
    · exact h.reach x h1
    · exact .inr ((ReachB.step (.refl (isB_some hs)) hs hym h1.start).trans h1)
  · rcases hv.closed x hx with h1 | h1
    · rcases h.closed x h1 with h2 | h2
      · exact .inl h2
      · exact .inr fun t ht z hz hb => hv.sub z (h2 t ht z hz hb)
    · exact .inr h1
  · rcases Nat.lt_or_ge i j with h1 | h1
    · exact hv.sub z (h.done i h1 z hz hb)
    · obtain rfl : i = j := by omega
      rw [hy] at hz
      cases hz
      exact hv.has hb
  · rw [hv.calls, h.calls]
    constructor
    · rintro ((h1 | ⟨x, h1, h2, h3⟩) | ⟨x, h1, h2, h3⟩)
      · exact .inl h1
      · exact .inr ⟨x, hv.sub x h1, h2, h3⟩
      · refine .inr ⟨x, h1, ?_, h3⟩
        cases hS : S x with
        | false => rfl
        | true => rw [old x hS] at h2; cases h2
    · rintro (h1 | ⟨x, h1, h2, h3⟩)
      · exact .inl (.inl h1)
      · cases hS : S1 x with
        | true => exact .inl (.inr ⟨x, hS, h2, h3⟩)
        | false => exact .inr ⟨x, h1, hS, h3⟩
  · rw [hv.leaf, h.leaf]
    constructor
    · rintro ⟨⟨h1, h2⟩, h3⟩
      refine ⟨h1, fun x hx hn => ?_⟩
      cases hS : S1 x with
      | true => exact h2 x hS hn
      | false => exact h3 x hx hS
    · rintro ⟨h1, h2⟩
      refine ⟨⟨h1, fun x hx hn => h2 x (hv.sub x hx) hn⟩, fun x hx hn => h2 x hx ?_⟩
      cases hS : S x with
      | false => rfl
      | true => rw [old x hS] at hn; cases hn
theorem VisBL.fin {b : List Bs} {a : Nat} {s : Bs} {S S1 : Nat → Bool} {C C1 : List Nat} {L L1 : Bool} {j : Nat} (h : VisBL b a s S S1 C C1 L L1 j) (hs : blkA b a = some s) (hj : s.succ.length ≤ j) : VisB b a S S1 C C1 L L1 := by
  refine ⟨fun x hx => h.sub x (adS_iff.2 (.inl hx)), fun _ => h.sub a (adS_iff.2 (.inr rfl)), h.reach, fun x hx => ?_, h.calls, h.leaf⟩
  rcases h.closed x hx with h1 | h1
  · rcases adS_iff.1 h1 with h1 | rfl
    · exact .inl h1
    · refine .inr fun t ht z hz hb => ?_
      rw [hs] at ht
      cases ht
      obtain ⟨i, hi, rfl⟩ := List.getElem_of_mem hz
      exact h.done i (by omega) _ (List.getElem?_eq_getElem hi) hb
  · exact .inr h1
theorem VisB.all {b : List Bs} {a : Nat} {S' : Nat → Bool} {C' : List Nat} {L' : Bool} (h : VisB b a (fun _ => false) S' [] C' true L') (x : Nat) : S' x = true ↔ ReachB b a x := by
  constructor
  · intro hx
    rcases h.reach x hx with h1 | h1
    · cases h1
    · exact h1
  · intro hr
    refine ReachB.closed (S := fun y => S' y = true) h.has (fun y s z hy hs hz hb => ?_) hr
    rcases h.closed y hy with h1 | h1
    · cases h1
    · exact h1 s hs z hz hb
/-- What a function with an entry is. -/
structure FnOf (b : List Bs) (nm : ByteArray) (a : Nat) (f : Fn18) : Prop where
  entry : f.entry = a
  name : f.name = nm
  asc : f.blocks.Pairwise (· < ·)
  blocks : ∀ x, x ∈ f.blocks ↔ ReachB b a x
  ascC : f.calls.Pairwise (· < ·)
  calls : ∀ c, c ∈ f.calls ↔ ∃ x, ReachB b a x ∧ CallsAt b x c
  leaf : f.leaf = true ↔ ∀ x, ReachB b a x → LeafAt b x
theorem FnOf.one {b : List Bs} {nm : ByteArray} {a : Nat} {f g : Fn18} (h : FnOf b nm a f) (k : FnOf b nm a g) : f = g := by
  cases f with
  | mk e n bl ca le =>
    cases g with
    | mk e' n' bl' ca' le' =>
      have h1 := h.entry
      have h2 := k.entry
      have h3 := h.name
      have h4 := k.name
      have h5 : bl = bl' := pw_ext h.asc k.asc fun x => (h.blocks x).trans (k.blocks x).symm
      have h6 : ca = ca' := pw_ext h.ascC k.ascC fun x => (h.calls x).trans (k.calls x).symm
      have h7 : le = le' := by
        rw [Bool.eq_iff_iff]
        exact h.leaf.trans k.leaf.symm
      simp only [] at h1 h2 h3 h4
      subst h1 h3 h5 h6 h7
      rw [h2, h4]
/-- The functions at a list of entries. -/
def FnsOf (b : List Bs) (nm : Nat → ByteArray) (es : List Nat) (fs : List Fn18) : Prop := fs.length = es.length ∧ ∀ (k a : Nat) (f : Fn18), es[k]? = some a → fs[k]? = some f → FnOf b (nm a) a f
theorem FnsOf.one {b : List Bs} {nm : Nat → ByteArray} {es : List Nat} {fs gs : List Fn18} (h : FnsOf b nm es fs) (k : FnsOf b nm es gs) : fs = gs := by
  refine List.ext_getElem? fun i => ?_
  by_cases hi : i < es.length
  · have h1 : i < fs.length := by rw [h.1]; exact hi
    have h2 : i < gs.length := by rw [k.1]; exact hi
    rw [List.getElem?_eq_getElem h1, List.getElem?_eq_getElem h2]
    congr 1
    exact (h.2 i _ _ (List.getElem?_eq_getElem hi) (List.getElem?_eq_getElem h1)).one (k.2 i _ _ (List.getElem?_eq_getElem hi) (List.getElem?_eq_getElem h2))
  · rw [List.getElem?_eq_none (by rw [h.1]; omega), List.getElem?_eq_none (by rw [k.1]; omega)]
theorem FnsOf.nil {b : List Bs} {nm : Nat → ByteArray} : FnsOf b nm [] [] := ⟨rfl, fun k a f h => by simp at h⟩
theorem FnsOf.snoc {b : List Bs} {nm : Nat → ByteArray} {es : List Nat} {fs : List Fn18} {a : Nat} {f : Fn18} (h : FnsOf b nm es fs) (hf : FnOf b (nm a) a f) : FnsOf b nm (es ++ [a]) (fs ++ [f]) := by
  refine ⟨by simp [h.1], fun k x g hx hg => ?_⟩
  rcases Nat.lt_trichotomy k es.length with hk | hk | hk
  · rw [List.getElem?_append_left hk] at hx
    rw [List.getElem?_append_left (by rw [h.1]; exact hk)] at hg
    exact h.2 k x g hx hg
  · have hl := h.1
    rw [hk] at hx hg
    rw [List.getElem?_append_right (Nat.le_refl _), Nat.sub_self] at hx
    rw [← hl, List.getElem?_append_right (Nat.le_refl _), Nat.sub_self] at hg
    cases hx
    cases hg
    exact hf
  · rw [List.getElem?_eq_none (by simp; omega)] at hx
    cases hx
/-- The error of Find. -/
def findErr (ck : Nat) (b : List Bs) (es : List Nat) : Nat := if ck ≠ 0 then ck else if 64 < es.length then 6 else if es.all (isB b) then 0 else 9
end Go.Proofs.YtnlmhnbogleijaaGreatDoor

namespace Go.Proofs.YtnlmhnbogleijaaGreatDoor
open Go.RowKit Go.Deco
set_option linter.unusedSimpArgs false
set_option linter.unusedVariables false

/-- How far the work list has come. -/
structure WkB (b : List Bs) (a : Nat) (W : List Nat) (i : Nat) (O : List Nat) : Prop where
  le : i ≤ W.length
  asc : O.Pairwise (· < ·)
  mem : ∀ x, x ∈ O ↔ x ∈ W.take i ∧ isB b x = true
  reach : ∀ x ∈ W, isB b x = true → ReachB b a x
  head : a ∈ W
  closed : ∀ x ∈ W.take i, ∀ s, blkA b x = some s → ∀ y ∈ s.succ, y ∈ W
theorem take_mem_snoc {W : List Nat} {i x y : Nat} (h : W[i]? = some x) : y ∈ W.take (i + 1) ↔ y ∈ W.take i ∨ y = x := by
  rw [List.take_add_one, h]
  simp
theorem WkB.start (b : List Bs) (a : Nat) : WkB b a [a] 0 [] :=
  ⟨by simp, List.Pairwise.nil, fun x => by simp, fun x hx hb => by simp at hx; subst hx; exact .refl hb, by simp, fun x hx => by simp at hx⟩
theorem WkB.skip {b : List Bs} {a i x : Nat} {W O : List Nat} (h : WkB b a W i O) (hx : W[i]? = some x) (hs : isB b x = false ∨ x ∈ W.take i) : WkB b a W (i + 1) O := by
  have hl : i < W.length := (List.getElem?_eq_some_iff.1 hx).1
  refine ⟨hl, h.asc, fun y => ?_, h.reach, h.head, fun y hy s hsy z hz => ?_⟩
  · rw [h.mem, take_mem_snoc hx]
    constructor
    · rintro ⟨h1, h2⟩
      exact ⟨.inl h1, h2⟩
    · rintro ⟨h1 | rfl, h2⟩
      · exact ⟨h1, h2⟩
      · rcases hs with hs | hs
        · rw [hs] at h2; cases h2
        · exact ⟨hs, h2⟩
  · rcases (take_mem_snoc hx).1 hy with h1 | rfl
    · exact h.closed y h1 s hsy z hz
    · rcases hs with hs | hs
      · rw [isB_some hsy] at hs; cases hs
      · exact h.closed y hs s hsy z hz
theorem WkB.add {b : List Bs} {a i x : Nat} {W O : List Nat} {s : Bs} (h : WkB b a W i O) (hx : W[i]? = some x) (hs : blkA b x = some s) : WkB b a (W ++ s.succ) (i + 1) (insOf O x) := by
  have hl : i < W.length := (List.getElem?_eq_some_iff.1 hx).1
  have ht : (W ++ s.succ).take (i + 1) = W.take (i + 1) := List.take_append_of_le_length (by omega)
  have hr := h.reach x (List.mem_of_getElem? hx) (isB_some hs)
  refine ⟨by simp; omega, ins_asc h.asc, fun y => ?_, fun y hy hb => ?_, List.mem_append_left _ h.head, fun y hy t hty z hz => ?_⟩
  · rw [ins_mem, h.mem, ht, take_mem_snoc hx]
    constructor
    · rintro (rfl | ⟨h1, h2⟩)
      · exact ⟨.inr rfl, isB_some hs⟩
      · exact ⟨.inl h1, h2⟩
    · rintro ⟨h1 | h1, h2⟩
      · exact .inr ⟨h1, h2⟩
      · exact .inl h1
  · rcases List.mem_append.1 hy with h1 | h1
    · exact h.reach y h1 hb
    · exact .step hr hs h1 hb
  · rw [ht] at hy
    rcases (take_mem_snoc hx).1 hy with h1 | rfl
    · exact List.mem_append_left _ (h.closed y h1 t hty z hz)
    · rw [hs] at hty
      cases hty
      exact List.mem_append_right _ hz
theorem WkB.fin {b : List Bs} {a i : Nat} {W O : List Nat} (h : WkB b a W i O) (hi : W.length ≤ i) (x : Nat) : x ∈ O ↔ ReachB b a x := by
  have ht : W.take i = W := List.take_of_length_le hi
  constructor
  · intro hx
    obtain ⟨h1, h2⟩ := (h.mem x).1 hx
    rw [ht] at h1
    exact h.reach x h1 h2
  · intro hr
    refine (h.mem x).2 ⟨?_, hr.ends⟩
    rw [ht]
    refine ReachB.closed (S := fun y => y ∈ W) (fun _ => h.head) (fun y s z hy hs hz _ => ?_) hr
    exact h.closed y (by rw [ht]; exact hy) s hs z hz
theorem WkB.len {b : List Bs} {a i : Nat} {W O : List Nat} (h : WkB b a W i O) : O.length ≤ b.length := by
  have := nodup_sub_len (E := b.map Bs.addr) (pw_nodup h.asc) (fun x hx => isB_addr ((h.mem x).1 hx).2)
  simpa using this
/-- What the reference's loop over a function's blocks has. -/
structure RefF (b : List Bs) (bl : List Nat) (n : Nat) (C : List Nat) (L : Bool) : Prop where
  asc : C.Pairwise (· < ·)
  calls : ∀ c, c ∈ C ↔ ∃ x ∈ bl.take n, CallsAt b x c
  leaf : L = true ↔ ∀ x ∈ bl.take n, LeafAt b x
theorem RefF.start (b : List Bs) (bl : List Nat) : RefF b bl 0 [] true := ⟨List.Pairwise.nil, fun c => by simp, by simp⟩
/-- One block's calls have been inserted. -/
theorem RefF.next {b : List Bs} {bl : List Nat} {n x : Nat} {C C' : List Nat} {L L' : Bool} {s : Bs} (h : RefF b bl n C L) (hx : bl[n]? = some x) (hs : blkA b x = some s) (hp : C'.Pairwise (· < ·)) (hc : ∀ c, c ∈ C' ↔ c ∈ C ∨ c ∈ ownCalls s) (hL : L' = (L && ownLeaf s)) : RefF b bl (n + 1) C' L' := by
  refine ⟨hp, fun c => ?_, ?_⟩
  · rw [hc, h.calls]
    constructor
    · rintro (⟨y, hy, h1⟩ | h1)
      · exact ⟨y, (take_mem_snoc hx).2 (.inl hy), h1⟩
      · exact ⟨x, (take_mem_snoc hx).2 (.inr rfl), s, hs, h1⟩
    · rintro ⟨y, hy, h1⟩
      rcases (take_mem_snoc hx).1 hy with h2 | rfl
      · exact .inl ⟨y, h2, h1⟩
      · obtain ⟨t, ht, h3⟩ := h1
        rw [hs] at ht
        cases ht
        exact .inr h3
  · rw [hL, Bool.and_eq_true, h.leaf]
    constructor
    · rintro ⟨h1, h2⟩ y hy
      rcases (take_mem_snoc hx).1 hy with h3 | rfl
      · exact h1 y h3
      · intro t ht
        rw [hs] at ht
        cases ht
        exact h2
    · intro h1
      exact ⟨fun y hy => h1 y ((take_mem_snoc hx).2 (.inl hy)), h1 x ((take_mem_snoc hx).2 (.inr rfl)) s hs⟩
theorem RefF.fin {b : List Bs} {bl : List Nat} {n a : Nat} {C : List Nat} {L : Bool} {nm : ByteArray} (h : RefF b bl n C L) (hn : bl.length ≤ n) (ha : bl.Pairwise (· < ·)) (hb : ∀ x, x ∈ bl ↔ ReachB b a x) : FnOf b nm a ⟨a, nm, bl, C, L⟩ := by
  have ht : bl.take n = bl := List.take_of_length_le hn
  refine ⟨rfl, rfl, ha, hb, h.asc, fun c => ?_, ?_⟩
  · show c ∈ C ↔ _
    rw [h.calls, ht]
    exact ⟨fun ⟨x, h1, h2⟩ => ⟨x, (hb x).1 h1, h2⟩, fun ⟨x, h1, h2⟩ => ⟨x, (hb x).2 h1, h2⟩⟩
  · show L = true ↔ _
    rw [h.leaf, ht]
    exact ⟨fun h1 x hx => h1 x ((hb x).2 hx), fun h1 x hx => h1 x ((hb x).1 hx)⟩
/-- One of a function's blocks but the entry follows one of them. -/
theorem ReachB.prev {b : List Bs} {a x : Nat} (h : ReachB b a x) (hn : x ≠ a) : ∃ y s, ReachB b a y ∧ blkA b y = some s ∧ x ∈ s.succ := by
  cases h with
  | refl h => exact absurd rfl hn
  | step h1 h2 h3 _ => exact ⟨_, _, h1, h2, h3⟩
/-- A leaf has no calls but those known of OpCallR. -/
theorem leaf_calls {b : List Bs} {nm : ByteArray} {a : Nat} {f : Fn18} (h : FnOf b nm a f) (hl : f.leaf = true) (hc : ∀ s ∈ b, s.calls = []) : f.calls = [] := by
  rw [List.eq_nil_iff_forall_not_mem]
  intro c hm
  obtain ⟨x, hx, s, hs, h1⟩ := (h.calls c).1 hm
  have h2 := h.leaf.1 hl x hx s hs
  unfold ownCalls at h1
  rw [hc s (blkA_mem hs).1] at h1
  simp at h1
  obtain ⟨i, ⟨hi, ho⟩, -⟩ := h1
  unfold ownLeaf at h2
  rw [List.all_eq_true] at h2
  have := h2 i hi
  simp [ho] at this
end Go.Proofs.YtnlmhnbogleijaaGreatDoor
