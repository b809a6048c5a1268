/- Chapter 17: a block as plain law. cfg: what (code).block holds in memory while it runs. -/
import Derived.Test.YtolbnhkdpbdhhaaCfgD
import Derived.Test.YtolbnhkdpbdhhaaCfgM
import Derived.Test.YtolbnhkdpbdhhaaApp
namespace Go.Proofs.Ytolbnhkdpbdhhaa
open Go.RowKit Go.Deco
set_option linter.unusedSimpArgs false
set_option linter.unusedVariables false

/-- Whether a block ends behind an instruction at an address. -/
def stopB (ins : List In) (ld : List Nat) (a : Nat) (i : In) : Bool := stopsI i || (ld.contains (nextI i) || (!hasIn ins (nextI i) || decide (nextI i ≤ a)))
/-- The instructions of a block from an address on. -/
def blkIns (ins : List In) (ld : List Nat) : Nat → Nat → List In
  | 0, _ => []
  | f + 1, a => match firstIn ins a with
    | none => []
    | some i => if stopB ins ld a i then [i] else i :: blkIns ins ld f (nextI i)
theorem stopB_next {ins : List In} {ld : List Nat} {a : Nat} {i : In} (h : stopB ins ld a i = false) : a < nextI i ∧ hasIn ins (nextI i) = true := by
  unfold stopB at h
  simp only [Bool.or_eq_false_iff, Bool.not_eq_false', decide_eq_false_iff_not] at h
  exact ⟨by omega, h.2.2.1⟩
theorem blkIns_fuel {ins : List In} {ld : List Nat} : ∀ (f g a : Nat), 4294967296 - a ≤ f → 4294967296 - a ≤ g → a < 4294967296 → blkIns ins ld f a = blkIns ins ld g a
  | 0, _, a, h1, _, h3 => by omega
  | f + 1, 0, a, _, h2, h3 => by omega
  | f + 1, g + 1, a, h1, h2, h3 => by
    rw [blkIns, blkIns]
    cases firstIn ins a with
    | none => rfl
    | some i =>
      simp only []
      cases hs : stopB ins ld a i with
      | true => rfl
      | false =>
        have := (stopB_next hs).1
        have := nextI_lt i
        rw [if_neg (by simp), if_neg (by simp), blkIns_fuel f g (nextI i) (by omega) (by omega) (by omega)]
def blkFrom (ins : List In) (ld : List Nat) (a : Nat) : List In := blkIns ins ld (4294967296 - a) a
theorem blkFrom_stop {ins : List In} {ld : List Nat} {a : Nat} {i : In} (ha : a < 4294967296) (hi : firstIn ins a = some i) (h : stopB ins ld a i = true) : blkFrom ins ld a = [i] := by
  unfold blkFrom
  obtain ⟨f, hf⟩ : ∃ f, 4294967296 - a = f + 1 := ⟨4294967296 - a - 1, by omega⟩
  rw [hf, blkIns, hi]
  simp only []
  rw [if_pos h]
theorem blkFrom_next {ins : List In} {ld : List Nat} {a : Nat} {i : In} (ha : a < 4294967296) (hi : firstIn ins a = some i) (h : stopB ins ld a i = false) : blkFrom ins ld a = i :: blkFrom ins ld (nextI i) := by
  have h1 := (stopB_next h).1
  have h2 := nextI_lt i
  unfold blkFrom
  obtain ⟨f, hf⟩ : ∃ f, 4294967296 - a = f + 1 := ⟨4294967296 - a - 1, by omega⟩
  rw [hf, blkIns, hi]
  simp only []
  rw [if_neg (by rw [h]; simp), blkIns_fuel f (4294967296 - nextI i) (nextI i) (by omega) (by omega) h2]
/-- The known targets of the calls among instructions. -/
def callsL (tabs : List (List Nat)) (at_ : List Nat) (l : List In) : List (List Nat) := (l.filter fun i => decide (i.op = 24)).map fun i => (tabOf tabs at_ i.addr).getD []
theorem callsL_hit {tabs : List (List Nat)} {at_ : List Nat} {l : List In} {i : In} (h : i.op = 24) : callsL tabs at_ (l ++ [i]) = callsL tabs at_ l ++ [(tabOf tabs at_ i.addr).getD []] := by simp [callsL, h]
theorem callsL_miss {tabs : List (List Nat)} {at_ : List Nat} {l : List In} {i : In} (h : ¬ i.op = 24) : callsL tabs at_ (l ++ [i]) = callsL tabs at_ l := by simp [callsL, h]
theorem callsL_len (tabs : List (List Nat)) (at_ : List Nat) (l : List In) : (callsL tabs at_ l).length ≤ l.length := by
  unfold callsL
  rw [List.length_map]
  exact List.length_filter_le _ _
/-- The successors behind an instruction. -/
def succL (ins : List In) (tabs : List (List Nat)) (at_ : List Nat) (i : In) : List Nat := (tgtI tabs at_ i ++ (if endsI i then [] else [nextI i])).filter (hasIn ins)
/-- The block of a leader. -/
def blockBs (ins : List In) (ld : List Nat) (tabs : List (List Nat)) (at_ : List Nat) (a : Nat) : Bs :=
  let l := blkFrom ins ld a
  let z := (l.getLast?).getD In.zero
  ⟨a, nextI z, l, succL ins tabs at_ z, callsL tabs at_ l⟩
/-- Blocks: the blocks and the error. -/
def indL (i : In) : Bool := decide (i.op = 21) || decide (i.op = 22)
def lastOf (b : Bs) : In := (b.ins.getLast?).getD In.zero
def badB (tabs : List (List Nat)) (at_ : List Nat) (b : Bs) : Bool := indL (lastOf b) && (tabOf tabs at_ (lastOf b).addr).isNone
def blocksR (ins : List In) (entries : List Nat) (tabs : List (List Nat)) (at_ : List Nat) : List Bs × Nat :=
  let ld := leadL ins entries tabs at_
  if 256 < ld.length then ([], 6) else
  if (ld.map (blockBs ins ld tabs at_)).any (badB tabs at_) then ([], 19) else (ld.map (blockBs ins ld tabs at_), 0)
theorem leadL_has {ins : List In} {entries : List Nat} {tabs : List (List Nat)} {at_ : List Nat} {x : Nat} (h : x ∈ leadL ins entries tabs at_) : ∃ i, firstIn ins x = some i := by
  unfold leadL at h
  rw [asc_mem, List.mem_filter] at h
  exact Option.isSome_iff_exists.1 h.2
end Go.Proofs.Ytolbnhkdpbdhhaa

namespace Go.Proofs.Ytolbnhkdpbdhhaa
open Go.RowKit Go.Deco
set_option linter.unusedSimpArgs false
set_option linter.unusedVariables false

/-- A box of five cells. -/
structure Box5 (w : World) (b : Nat) (v0 v1 v2 v3 v4 : Value) : Prop where
  c0 : w.cell? ⟨b, 0, none⟩ = some v0
  c1 : w.cell? ⟨b, 1, none⟩ = some v1
  c2 : w.cell? ⟨b, 2, none⟩ = some v2
  c3 : w.cell? ⟨b, 3, none⟩ = some v3
  c4 : w.cell? ⟨b, 4, none⟩ = some v4
  fz : ∀ i, w.frozen? ⟨b, i, none⟩ = false
namespace Box5
variable {w w' : World} {b : Nat} {v0 v1 v2 v3 v4 : Value}
theorem lt (h : Box5 w b v0 v1 v2 v3 v4) : b < w.heap.size := World.block_lt_of_cell? _ _ h.c0
theorem ext (h : Box5 w b v0 v1 v2 v3 v4) (he : Ext w w') : Box5 w' b v0 v1 v2 v3 v4 :=
  ⟨he.cell h.c0, he.cell h.c1, he.cell h.c2, he.cell h.c3, he.cell h.c4, fun i => (he.frozen (p := ⟨b, i, none⟩) h.lt).trans (h.fz i)⟩
theorem far (h : Box5 w b v0 v1 v2 v3 v4) {p : Addr} {u : Value} (hp : p.block ≠ b) : Box5 (w.setCell p u) b v0 v1 v2 v3 v4 := by
  have e : ∀ j, p ≠ (⟨b, j, none⟩ : Addr) := fun j h => hp (congrArg Addr.block h)
  exact ⟨(World.cell?_setCell_other _ _ _ _ (e 0)).trans h.c0, (World.cell?_setCell_other _ _ _ _ (e 1)).trans h.c1, (World.cell?_setCell_other _ _ _ _ (e 2)).trans h.c2, (World.cell?_setCell_other _ _ _ _ (e 3)).trans h.c3, (World.cell?_setCell_other _ _ _ _ (e 4)).trans h.c4, fun i => by rw [World.frozen?_setCell]; exact h.fz i⟩
theorem grown {row : Option Nat} (h : Box5 w b v0 v1 v2 v3 v4) (hg : w.grownBy w' row) (hne : some b ≠ row) : Box5 w' b v0 v1 v2 v3 v4 := by
  have hb := hg.block b h.lt hne
  have hc : ∀ j, w'.cell? ⟨b, j, none⟩ = w.cell? ⟨b, j, none⟩ := fun j => by unfold World.cell?; rw [hb]
  have hf : ∀ j, w'.frozen? ⟨b, j, none⟩ = w.frozen? ⟨b, j, none⟩ := fun j => by unfold World.frozen?; rw [hb]
  exact ⟨(hc 0).trans h.c0, (hc 1).trans h.c1, (hc 2).trans h.c2, (hc 3).trans h.c3, (hc 4).trans h.c4, fun i => (hf i).trans (h.fz i)⟩
theorem put0 (h : Box5 w b v0 v1 v2 v3 v4) (u : Value) : Box5 (w.setCell ⟨b, 0, none⟩ u) b u v1 v2 v3 v4 := by
  obtain ⟨h0, h1, h2, h3, h4, hf⟩ := h
  refine ⟨?_, ?_, ?_, ?_, ?_, fun i => by rw [World.frozen?_setCell]; exact hf i⟩ <;> simp [World.cell?_setCell_same, World.cell?_setCell_other, h0, h1, h2, h3, h4]
theorem put1 (h : Box5 w b v0 v1 v2 v3 v4) (u : Value) : Box5 (w.setCell ⟨b, 1, none⟩ u) b v0 u v2 v3 v4 := by
  obtain ⟨h0, h1, h2, h3, h4, hf⟩ := h
  refine ⟨?_, ?_, ?_, ?_, ?_, fun i => by rw [World.frozen?_setCell]; exact hf i⟩ <;> simp [World.cell?_setCell_same, World.cell?_setCell_other, h0, h1, h2, h3, h4]
theorem put2 (h : Box5 w b v0 v1 v2 v3 v4) (u : Value) : Box5 (w.setCell ⟨b, 2, none⟩ u) b v0 v1 u v3 v4 := by
  obtain ⟨h0, h1, h2, h3, h4, hf⟩ := h
  refine ⟨?_, ?_, ?_, ?_, ?_, fun i => by rw [World.frozen?_setCell]; exact hf i⟩ <;> simp [World.cell?_setCell_same, World.cell?_setCell_other, h0, h1, h2, h3, h4]
theorem put3 (h : Box5 w b v0 v1 v2 v3 v4) (u : Value) : Box5 (w.setCell ⟨b, 3, none⟩ u) b v0 v1 v2 u v4 := by
  obtain ⟨h0, h1, h2, h3, h4, hf⟩ := h
  refine ⟨?_, ?_, ?_, ?_, ?_, fun i => by rw [World.frozen?_setCell]; exact hf i⟩ <;> simp [World.cell?_setCell_same, World.cell?_setCell_other, h0, h1, h2, h3, h4]
theorem put4 (h : Box5 w b v0 v1 v2 v3 v4) (u : Value) : Box5 (w.setCell ⟨b, 4, none⟩ u) b v0 v1 v2 v3 u := by
  obtain ⟨h0, h1, h2, h3, h4, hf⟩ := h
  refine ⟨?_, ?_, ?_, ?_, ?_, fun i => by rw [World.frozen?_setCell]; exact hf i⟩ <;> simp [World.cell?_setCell_same, World.cell?_setCell_other, h0, h1, h2, h3, h4]
end Box5
/-- The elements may lie elsewhere. -/
theorem own_reT {E : Type} {R : Rep E} {w : World} {base : Nat} {e : TypeId} {T T' : Nat → Prop} {v : Value} {l : List E} (h : OwnS R w base e T v l) (hT : ∀ b, IsCells w b → T b → some b ≠ v.ownBlock → T' b) : OwnS R w base e T' v l := by
  obtain ⟨xs, ho, hc⟩ := h
  exact ⟨xs, ho, hc.mono fun b hb hi => ⟨hT b hi hb.1 hb.2, hb.2⟩⟩
/-- Rows of different types are different rows. -/
theorem own_types {E F : Type} {R : Rep E} {R' : Rep F} {w : World} {b1 b2 : Nat} {e1 e2 : TypeId} {T1 T2 : Nat → Prop} {v1 v2 : Value} {l1 : List E} {l2 : List F} (h1 : OwnS R w b1 e1 T1 v1 l1) (h2 : OwnS R' w b2 e2 T2 v2 l2) (hne : e1 ≠ e2) :
    v1.ownBlock = none ∨ v1.ownBlock ≠ v2.ownBlock := by
  obtain ⟨xs, ho, -⟩ := h1
  obtain ⟨ys, hp, -⟩ := h2
  rcases ho.2 with ⟨rfl, _⟩ | ⟨g, cap, cur, rfl, _, hg, _⟩
  · exact .inl rfl
  · refine .inr fun e => ?_
    rcases hp.2 with ⟨rfl, _⟩ | ⟨g', cap', cur', rfl, _, hg', _⟩
    · simp [Value.ownBlock] at e
    · obtain rfl : g = g' := by simpa [Value.ownBlock] using e
      rw [hg] at hg'
      injection hg' with hg'
      injection hg' with _ e2 _
      exact hne e2
/-- What block holds: the code, the result's box, the block's box, the rows of its instructions and of its calls. -/
structure BkS (w wr : World) (cm cT cQ : Value) (a0 e : Nat) (v1 v3 : Value) (acc : List In) (cl : List (List Nat)) : Prop where
  ext : Ext w wr
  m0 : wr.cell? ⟨w.heap.size, 0, none⟩ = some cm
  m1 : wr.cell? ⟨w.heap.size, 1, none⟩ = some cT
  m2 : wr.cell? ⟨w.heap.size, 2, none⟩ = some cQ
  res : Box5 wr (w.heap.size + 1) (.int .u32 0) (.int .u32 0) (.slice none 0 0) (.slice none 0 0) (.slice none 0 0)
  bx : Box5 wr (w.heap.size + 2) (.int .u32 a0) (.int .u32 e) v1 (.slice none 0 0) v3
  own1 : OwnS insR wr (w.heap.size + 3) 61 (fun _ => False) v1 acc
  own3 : OwnS u32sR wr (w.heap.size + 3) 23 (fun b => b < wr.heap.size ∧ w.heap.size + 3 ≤ b ∧ some b ≠ v1.ownBlock) v3 cl
namespace BkS
variable {w wr w' : World} {cm cT cQ : Value} {a0 e : Nat} {v1 v3 : Value} {acc : List In} {cl : List (List Nat)}
theorem more (h : BkS w wr cm cT cQ a0 e v1 v3 acc cl) (he : Ext wr w') : BkS w w' cm cT cQ a0 e v1 v3 acc cl :=
  ⟨h.ext.trans he, he.cell h.m0, he.cell h.m1, he.cell h.m2, h.res.ext he, h.bx.ext he, h.own1.ext he, own_reT (h.own3.ext he) fun b _ hb _ => ⟨Nat.lt_of_lt_of_le hb.1 he.size, hb.2⟩⟩
theorem setEnd (h : BkS w wr cm cT cQ a0 e v1 v3 acc cl) (e' : Nat) : BkS w (wr.setCell ⟨w.heap.size + 2, 1, none⟩ (.int .u32 e')) cm cT cQ a0 e' v1 v3 acc cl := by
  have n0 : ∀ j, (⟨w.heap.size + 2, 1, none⟩ : Addr) ≠ ⟨w.heap.size, j, none⟩ := fun j e => by have := congrArg Addr.block e; simp at this
  refine ⟨h.ext.setCell (by show w.heap.size ≤ w.heap.size + 2; omega) _, (World.cell?_setCell_other _ _ _ _ (n0 0)).trans h.m0, (World.cell?_setCell_other _ _ _ _ (n0 1)).trans h.m1, (World.cell?_setCell_other _ _ _ _ (n0 2)).trans h.m2,
    h.res.far (by show w.heap.size + 2 ≠ w.heap.size + 1; omega), h.bx.put1 _, h.own1.set_far (fun e => by have := (h.own1.block _ e).1; have : w.heap.size + 3 ≤ w.heap.size + 2 := this; omega) (fun _ h => h.elim), ?_⟩
  have := h.own3.set_far (p := ⟨w.heap.size + 2, 1, none⟩) (u := .int .u32 e') (fun e => by have := (h.own3.block _ e).1; have : w.heap.size + 3 ≤ w.heap.size + 2 := this; omega) (fun b hb => by show b ≠ w.heap.size + 2; have := hb.2.1; omega)
  exact own_reT this fun b _ hb _ => ⟨by simpa using hb.1, hb.2⟩
theorem addIns (h : BkS w wr cm cT cQ a0 e v1 v3 acc cl) {i : In} {A' : Option Addr} {n' c' : Nat} {tmp : Obj} (ho : OwnS insR w' (w.heap.size + 3) 61 (fun _ => False) (.slice A' n' c') (acc ++ [i])) (hg : (wr.alloc tmp).grownBy w' v1.ownBlock)
    (hl : ∀ g, (Value.slice A' n' c').ownBlock = some g → v1.ownBlock = some g ∨ wr.heap.size < g) : BkS w (w'.setCell ⟨w.heap.size + 2, 2, none⟩ (.slice A' n' c')) cm cT cQ a0 e (.slice A' n' c') v3 (acc ++ [i]) cl := by
  have hb1 := fun k hk => (h.own1.block k hk).1
  have hne : ∀ b, b < w.heap.size + 3 → some b ≠ v1.ownBlock := fun b hb e => by have := hb1 b e.symm; omega
  have h0 := h.more ((Ext.refl wr).alloc tmp)
  have n0 : ∀ j, (⟨w.heap.size + 2, 2, none⟩ : Addr) ≠ ⟨w.heap.size, j, none⟩ := fun j e => by have := congrArg Addr.block e; simp at this
  have hlt0 := World.block_lt_of_cell? _ _ h0.m0
  have hcell : ∀ j u, (wr.alloc tmp).cell? ⟨w.heap.size, j, none⟩ = some u → (w'.setCell ⟨w.heap.size + 2, 2, none⟩ (.slice A' n' c')).cell? ⟨w.heap.size, j, none⟩ = some u := fun j u hu => by
    rw [World.cell?_setCell_other _ _ _ _ (n0 j)]
    have hb := hg.block w.heap.size hlt0 (hne _ (by omega))
    unfold World.cell? at hu ⊢
    rw [hb]
    exact hu
  refine ⟨((h0.ext.grown hg (fun k hk => by have := hb1 k hk; omega)).setCell (by show w.heap.size ≤ w.heap.size + 2; omega) _), hcell 0 _ h0.m0, hcell 1 _ h0.m1, hcell 2 _ h0.m2,
    (h0.res.grown hg (hne _ (by omega))).far (by show w.heap.size + 2 ≠ w.heap.size + 1; omega), (h0.bx.grown hg (hne _ (by omega))).put2 _, ho.set_far (fun e => by have := (ho.block _ e).1; have : w.heap.size + 3 ≤ w.heap.size + 2 := this; omega) (fun _ h => h.elim), ?_⟩
  have hk := h0.own3.kept hg (own_types h0.own3 h0.own1 (by decide)) (fun b hb _ hc => hg.block b hc.lt hb.2.2)
  have hk2 := own_reT (T' := fun b => b < wr.heap.size + 1 ∧ w.heap.size + 3 ≤ b ∧ some b ≠ v1.ownBlock) hk fun b _ hb _ => ⟨by simpa using hb.1, hb.2⟩
  have hk3 := hk2.set_far (p := ⟨w.heap.size + 2, 2, none⟩) (u := .slice A' n' c') (fun e => by have := (hk2.block _ e).1; have : w.heap.size + 3 ≤ w.heap.size + 2 := this; omega) (fun b hb => by show b ≠ w.heap.size + 2; have := hb.2.1; omega)
  refine own_reT hk3 fun b hi hb _ => ⟨hi.lt, hb.2.1, fun e => ?_⟩
  rcases hl b e.symm with h | h
  · exact hb.2.2 h.symm
  · have := hb.1; omega
theorem addCall (h : BkS w wr cm cT cQ a0 e v1 v3 acc cl) {x : List Nat} {A' : Option Addr} {n' c' : Nat} {tmp : Obj} (ho : OwnS u32sR w' (w.heap.size + 3) 23 (fun b => b < wr.heap.size ∧ w.heap.size + 3 ≤ b ∧ some b ≠ v1.ownBlock) (.slice A' n' c') (cl ++ [x])) (hg : (wr.alloc tmp).grownBy w' v3.ownBlock) :
    BkS w (w'.setCell ⟨w.heap.size + 2, 4, none⟩ (.slice A' n' c')) cm cT cQ a0 e v1 (.slice A' n' c') acc (cl ++ [x]) := by
  have hb1 := fun k hk => (h.own3.block k hk).1
  have hne : ∀ b, b < w.heap.size + 3 → some b ≠ v3.ownBlock := fun b hb e => by have := hb1 b e.symm; omega
  have h0 := h.more ((Ext.refl wr).alloc tmp)
  have n0 : ∀ j, (⟨w.heap.size + 2, 4, none⟩ : Addr) ≠ ⟨w.heap.size, j, none⟩ := fun j e => by have := congrArg Addr.block e; simp at this
  have hlt0 := World.block_lt_of_cell? _ _ h0.m0
  have hcell : ∀ j u, (wr.alloc tmp).cell? ⟨w.heap.size, j, none⟩ = some u → (w'.setCell ⟨w.heap.size + 2, 4, none⟩ (.slice A' n' c')).cell? ⟨w.heap.size, j, none⟩ = some u := fun j u hu => by
    rw [World.cell?_setCell_other _ _ _ _ (n0 j)]
    have hb := hg.block w.heap.size hlt0 (hne _ (by omega))
    unfold World.cell? at hu ⊢
    rw [hb]
    exact hu
  have hs := hg.size
  have hk := h0.own1.kept hg (own_types h0.own1 h0.own3 (by decide)) (fun b hb => hb.elim)
  refine ⟨((h0.ext.grown hg (fun k hk => by have := hb1 k hk; omega)).setCell (by show w.heap.size ≤ w.heap.size + 2; omega) _), hcell 0 _ h0.m0, hcell 1 _ h0.m1, hcell 2 _ h0.m2,
    (h0.res.grown hg (hne _ (by omega))).far (by show w.heap.size + 2 ≠ w.heap.size + 1; omega), (h0.bx.grown hg (hne _ (by omega))).put4 _, hk.set_far (fun e => by have := (hk.block _ e).1; have : w.heap.size + 3 ≤ w.heap.size + 2 := this; omega) (fun _ h => h.elim), ?_⟩
  have := ho.set_far (p := ⟨w.heap.size + 2, 4, none⟩) (u := .slice A' n' c') (fun e => by have := (ho.block _ e).1; have : w.heap.size + 3 ≤ w.heap.size + 2 := this; omega) (fun b hb => by show b ≠ w.heap.size + 2; have := hb.2.1; omega)
  exact own_reT this fun b hi hb _ => ⟨hi.lt, hb.2⟩
/-- A row that was just laid may be listed among the calls. -/
theorem rowOk {W5 : World} (h : BkS w wr cm cT cQ a0 e v1 v3 acc cl) (he : Ext wr W5) {A : Option Addr} {n c : Nat} {x : List Nat} (ho : OwnS u32R W5 wr.heap.size 39 All (.slice A n c) x) :
    Sl u32R W5 (fun b => (b < W5.heap.size ∧ w.heap.size + 3 ≤ b ∧ some b ≠ v1.ownBlock) ∧ some b ≠ v3.ownBlock) (.slice A n c) x := by
  have hlt := h.bx.lt
  refine (ho.num_sl (S := fun b => wr.heap.size ≤ b) (fun k hk => hk)).mono fun b hb hi => ⟨⟨hi.lt, by omega, fun e => ?_⟩, fun e => ?_⟩
  · have := (h.own1.block _ e.symm).2; omega
  · have := (h.own3.block _ e.symm).2; omega
end BkS
/-- What it holds while it lists the successors. -/
structure BkT (w : World) (V : Nat) (wr : World) (cm : Value) (a0 e : Nat) (v1 v2 v3 : Value) (acc : List In) (cl : List (List Nat)) (M : List Nat) : Prop where
  ext : Ext w wr
  m0 : wr.cell? ⟨w.heap.size, 0, none⟩ = some cm
  res : Box5 wr (w.heap.size + 1) (.int .u32 0) (.int .u32 0) (.slice none 0 0) (.slice none 0 0) (.slice none 0 0)
  bx : Box5 wr (w.heap.size + 2) (.int .u32 a0) (.int .u32 e) v1 v2 v3
  lt : w.heap.size + 3 ≤ V
  sl1 : Sl insR wr (fun b => w.heap.size + 3 ≤ b ∧ b < V) v1 acc
  sl3 : Sl u32sR wr (fun b => w.heap.size + 3 ≤ b ∧ b < V) v3 cl
  own2 : OwnS u32R wr V 39 All v2 M
  vle : V ≤ wr.heap.size
namespace BkT
variable {w wr w' : World} {V : Nat} {cm : Value} {a0 e : Nat} {v1 v2 v3 : Value} {acc : List In} {cl : List (List Nat)} {M : List Nat}
theorem start {cT cQ : Value} (h : BkS w wr cm cT cQ a0 e v1 v3 acc cl) : BkT w wr.heap.size wr cm a0 e v1 (.slice none 0 0) v3 acc cl [] :=
  ⟨h.ext, h.m0, h.res, h.bx, h.bx.lt, h.own1.slT (fun _ h => h.elim) (fun k hk => h.own1.block k hk), h.own3.slT (fun _ hb => ⟨hb.2.1, hb.1⟩) (fun k hk => h.own3.block k hk), OwnS.nil, Nat.le_refl _⟩
theorem more (h : BkT w V wr cm a0 e v1 v2 v3 acc cl M) (he : Ext wr w') : BkT w V w' cm a0 e v1 v2 v3 acc cl M :=
  ⟨h.ext.trans he, he.cell h.m0, h.res.ext he, h.bx.ext he, h.lt, h.sl1.ext he, h.sl3.ext he, h.own2.ext he, Nat.le_trans h.vle he.size⟩
theorem addS (h : BkT w V wr cm a0 e v1 v2 v3 acc cl M) {x : Nat} {A' : Option Addr} {n' c' : Nat} {tmp : Obj} (ho : OwnS u32R w' V 39 All (.slice A' n' c') (M ++ [x])) (hg : (wr.alloc tmp).grownBy w' v2.ownBlock) :
    BkT w V (w'.setCell ⟨w.heap.size + 2, 3, none⟩ (.slice A' n' c')) cm a0 e v1 (.slice A' n' c') v3 acc cl (M ++ [x]) := by
  have hV := h.lt
  have hb1 := fun k hk => (h.own2.block k hk).1
  have hne : ∀ b, b < V → some b ≠ v2.ownBlock := fun b hb e => by have := hb1 b e.symm; omega
  have h0 := h.more ((Ext.refl wr).alloc tmp)
  have n0 : ∀ j, (⟨w.heap.size + 2, 3, none⟩ : Addr) ≠ ⟨w.heap.size, j, none⟩ := fun j e => by have := congrArg Addr.block e; simp at this
  have hlt0 := World.block_lt_of_cell? _ _ h0.m0
  have hkeep : ∀ b, w.heap.size + 3 ≤ b ∧ b < V → IsCells (wr.alloc tmp) b → (w'.setCell ⟨w.heap.size + 2, 3, none⟩ (.slice A' n' c')).heap[b]? = (wr.alloc tmp).heap[b]? := fun b hb hi =>
    (Below.heap_setCell _ _ _ b (by show b ≠ w.heap.size + 2; omega)).trans (hg.block b hi.lt (hne b hb.2))
  refine ⟨((h0.ext.grown hg (fun k hk => by have := hb1 k hk; omega)).setCell (by show w.heap.size ≤ w.heap.size + 2; omega) _), ?_, (h0.res.grown hg (hne _ (by omega))).far (by show w.heap.size + 2 ≠ w.heap.size + 1; omega), (h0.bx.grown hg (hne _ (by omega))).put3 _, hV, h0.sl1.keep hkeep, h0.sl3.keep hkeep, ?_, ?_⟩
  · rw [World.cell?_setCell_other _ _ _ _ (n0 0)]
    have hu := h0.m0
    have hb := hg.block w.heap.size hlt0 (hne _ (by omega))
    unfold World.cell? at hu ⊢
    rw [hb]
    exact hu
  · have e1 : (numR .u32 4294967296).size = 1 := rfl
    obtain ⟨xs, h1, h2⟩ := ho
    refine ⟨xs, ?_, chunks_num.2 (chunks_num.1 h2)⟩
    have hx : OwnS u32R w' V 39 (fun b => V ≤ b) (.slice A' n' c') (M ++ [x]) := ⟨xs, h1, chunks_num.2 (chunks_num.1 h2)⟩
    have hy := hx.set_far (p := ⟨w.heap.size + 2, 3, none⟩) (u := .slice A' n' c') (fun e => by have := (hx.block _ e).1; have : V ≤ w.heap.size + 2 := this; omega) (fun b hb => by show b ≠ w.heap.size + 2; omega)
    obtain ⟨ys, h3, h4⟩ := hy
    rw [(chunks_num.1 h2).1, ← (chunks_num.1 h4).1]
    exact h3
  · have h1 := h0.vle
    have h2 := hg.size
    have h3 : (w'.setCell ⟨w.heap.size + 2, 3, none⟩ (.slice A' n' c')).heap.size = w'.heap.size := by simp
    omega
theorem done (h : BkT w V wr cm a0 e v1 v2 v3 acc cl M) (u0 u1 u2 u3 u4 : Value) {W : World} (hW : ((((wr.setCell ⟨w.heap.size + 1, 0, none⟩ u0).setCell ⟨w.heap.size + 1, 1, none⟩ u1).setCell ⟨w.heap.size + 1, 2, none⟩ u2).setCell ⟨w.heap.size + 1, 3, none⟩ u3).setCell ⟨w.heap.size + 1, 4, none⟩ u4 = W) :
    Ext w W ∧ Sl insR W (fun b => w.heap.size ≤ b) v1 acc ∧ Sl u32R W (fun b => w.heap.size ≤ b) v2 M ∧ Sl u32sR W (fun b => w.heap.size ≤ b) v3 cl := by
  have hV := h.lt
  have hle : ∀ j, w.heap.size ≤ (⟨w.heap.size + 1, j, none⟩ : Addr).block := fun j => by show w.heap.size ≤ w.heap.size + 1; omega
  have hb : ∀ b, w.heap.size + 3 ≤ b → W.heap[b]? = wr.heap[b]? := fun b hb => by
    have hne : ∀ j, b ≠ (⟨w.heap.size + 1, j, none⟩ : Addr).block := fun j => by show b ≠ w.heap.size + 1; omega
    rw [← hW]
    exact (Below.heap_setCell _ _ _ b (hne _)).trans ((Below.heap_setCell _ _ _ b (hne _)).trans ((Below.heap_setCell _ _ _ b (hne _)).trans ((Below.heap_setCell _ _ _ b (hne _)).trans (Below.heap_setCell _ _ _ b (hne _)))))
  refine ⟨by rw [← hW]; exact ((((h.ext.setCell (hle _) _).setCell (hle _) _).setCell (hle _) _).setCell (hle _) _).setCell (hle _) _, (h.sl1.keep (w' := W) fun b hs _ => hb b hs.1).mono (fun b hs _ => by have := hs.1; omega), ?_, (h.sl3.keep (w' := W) fun b hs _ => hb b hs.1).mono (fun b hs _ => by have := hs.1; omega)⟩
  exact ((h.own2.num_sl (S := fun b => V ≤ b) (fun k hk => hk)).keep (w' := W) fun b hs _ => hb b (by omega)).mono (fun b hs _ => by omega)
end BkT
theorem extAllocB {a w : World} (h : Ext a w) (o : Obj) : ∃ wA sz, w.alloc o = wA ∧ w.heap.size = sz ∧ Ext w wA ∧ a.heap.size ≤ sz ∧ wA.heap[sz]? = some o := ⟨_, _, rfl, rfl, (Ext.refl w).alloc o, h.size, by show (w.heap.push o)[w.heap.size]? = some o; simp⟩
theorem lit1 {w : World} {a x : Nat} {t : TypeId} {f : Nat × Nat} (h : w.heap[a]? = some (.cells #[.int .u32 x] t f)) (hx : x < 4294967296) : Sl u32R w (fun b => b = a) (.slice (some ⟨a, 0, none⟩) 1 1) [x] := by
  refine sl_of_chunks (R := u32R) (l := [x]) (c := 1) rfl (xs := [.int .u32 x]) (chunks_num.2 ⟨rfl, by simpa using hx⟩) (fun j u hj => ?_) (by simp) (by decide)
  unfold World.cell?
  rw [h]
  cases j with
  | zero => simpa using hj
  | succ j => simp at hj
/-- Numbers stay where they are. -/
def KeepsI (V wr : World) : Prop := ∀ b off (x : Nat), V.cell? ⟨b, off, none⟩ = some (.int .u32 x) → wr.cell? ⟨b, off, none⟩ = some (.int .u32 x)
theorem KeepsI.more {V wr w' : World} (h : KeepsI V wr) (he : Ext wr w') : KeepsI V w' := fun b off x hx => he.cell (h b off x hx)
theorem KeepsI.addS {w V wr w' : World} {cm : Value} {a0 e : Nat} {v1 v3 : Value} {acc : List In} {cl : List (List Nat)} {M : List Nat} {A : Option Addr} {n c : Nat} (h : KeepsI V wr) (hb : BkT w V.heap.size wr cm a0 e v1 (.slice A n c) v3 acc cl M) {tmp : Obj} {u : Value}
    (hg : (wr.alloc tmp).grownBy w' (Value.slice A n c).ownBlock) : KeepsI V (w'.setCell ⟨w.heap.size + 2, 3, none⟩ u) := fun b off x hx => by
  have h1 := h b off x hx
  have hlt : b < V.heap.size := World.block_lt_of_cell? _ _ hx
  have hne : (⟨w.heap.size + 2, 3, none⟩ : Addr) ≠ ⟨b, off, none⟩ := fun e => by
    have := hb.bx.c3
    rw [e, h1] at this
    cases this
  rw [World.cell?_setCell_other _ _ _ _ hne]
  have h2 := ((Ext.refl wr).alloc tmp).cell h1
  have h3 := hg.block b (World.block_lt_of_cell? _ _ h2) (fun e => by have := (hb.own2.block _ e.symm).1; omega)
  unfold World.cell? at h2 ⊢
  rw [h3]
  exact h2
end Go.Proofs.Ytolbnhkdpbdhhaa
