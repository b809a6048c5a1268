/- decompilerref17.block: what it holds in memory while it runs (as BkL's words, with the code's four slices). decompilerref17.block. decompilerref17.Blocks. law17.same; CfgBlocks: the law's walk. -/
import Derived.Test.YtolbnhkdpbdhhaaBkC
import Derived.Test.YtolbnhkdpbdhhaaCfgT
import Derived.Test.YtolbnhkdpbdhhaaR3C
import Derived.Test.YtolbnhkdpbdhhaaLeaA
import Derived.Deep.CutBlock
import Derived.Deep.CutRange
import Derived.Test.YtolbnhkdpbdhhaaLeaC
namespace Go.Proofs.Ytolbnhkdpbdhhaa
open Go.RowKit Go.Deco
set_option linter.unusedSimpArgs false
set_option linter.unusedVariables false

/-- What block holds: the code, the result's box, the block's box, the rows of its instructions and of its calls. -/
structure RkS (w wr : World) (cm cT cQ cB : Value) (a0 e : Nat) (v1 v3 : Value) (acc : List In) (cl : List (List Nat)) : Prop where
  ext : Ext w wr
  m0 : wr.cell? ⟨w.heap.size, 0, none⟩ = some cm
  m1 : wr.cell? ⟨w.heap.size, 1, none⟩ = some cT
  m2 : wr.cell? ⟨w.heap.size, 2, none⟩ = some cQ
  m3 : wr.cell? ⟨w.heap.size, 3, none⟩ = some cB
  res : Box5 wr (w.heap.size + 1) (.int .u32 0) (.int .u32 0) (.slice none 0 0) (.slice none 0 0) (.slice none 0 0)
  bx : Box5 wr (w.heap.size + 2) (.int .u32 a0) (.int .u32 e) v1 (.slice none 0 0) v3
  own1 : OwnS insR wr (w.heap.size + 3) 61 (fun _ => False) v1 acc
  own3 : OwnS u32sR wr (w.heap.size + 3) 23 (fun b => b < wr.heap.size ∧ w.heap.size + 3 ≤ b ∧ some b ≠ v1.ownBlock) v3 cl
namespace RkS
variable {w wr w' : World} {cm cT cQ cB : Value} {a0 e : Nat} {v1 v3 : Value} {acc : List In} {cl : List (List Nat)}
theorem more (h : RkS w wr cm cT cQ cB a0 e v1 v3 acc cl) (he : Ext wr w') : RkS w w' cm cT cQ cB a0 e v1 v3 acc cl :=
  ⟨h.ext.trans he, he.cell h.m0, he.cell h.m1, he.cell h.m2, he.cell h.m3, h.res.ext he, h.bx.ext he, h.own1.ext he, own_reT (h.own3.ext he) fun b _ hb _ => ⟨Nat.lt_of_lt_of_le hb.1 he.size, hb.2⟩⟩
theorem setEnd (h : RkS w wr cm cT cQ cB a0 e v1 v3 acc cl) (e' : Nat) : RkS w (wr.setCell ⟨w.heap.size + 2, 1, none⟩ (.int .u32 e')) cm cT cQ cB a0 e' v1 v3 acc cl := by
  have n0 : ∀ j, (⟨w.heap.size + 2, 1, none⟩ : Addr) ≠ ⟨w.heap.size, j, none⟩ := fun j e => by have := congrArg Addr.block e; simp at this
  refine ⟨h.ext.setCell (by show w.heap.size ≤ w.heap.size + 2; omega) _, (World.cell?_setCell_other _ _ _ _ (n0 0)).trans h.m0, (World.cell?_setCell_other _ _ _ _ (n0 1)).trans h.m1, (World.cell?_setCell_other _ _ _ _ (n0 2)).trans h.m2, (World.cell?_setCell_other _ _ _ _ (n0 3)).trans h.m3,
    h.res.far (by show w.heap.size + 2 ≠ w.heap.size + 1; omega), h.bx.put1 _, h.own1.set_far (fun e => by have := (h.own1.block _ e).1; have : w.heap.size + 3 ≤ w.heap.size + 2 := this; omega) (fun _ h => h.elim), ?_⟩
  have := h.own3.set_far (p := ⟨w.heap.size + 2, 1, none⟩) (u := .int .u32 e') (fun e => by have := (h.own3.block _ e).1; have : w.heap.size + 3 ≤ w.heap.size + 2 := this; omega) (fun b hb => by show b ≠ w.heap.size + 2; have := hb.2.1; omega)
  exact own_reT this fun b _ hb _ => ⟨by simpa using hb.1, hb.2⟩
theorem addIns (h : RkS w wr cm cT cQ cB a0 e v1 v3 acc cl) {i : In} {A' : Option Addr} {n' c' : Nat} {tmp : Obj} (ho : OwnS insR w' (w.heap.size + 3) 61 (fun _ => False) (.slice A' n' c') (acc ++ [i])) (hg : (wr.alloc tmp).grownBy w' v1.ownBlock)
    (hl : ∀ g, (Value.slice A' n' c').ownBlock = some g → v1.ownBlock = some g ∨ wr.heap.size < g) : RkS w (w'.setCell ⟨w.heap.size + 2, 2, none⟩ (.slice A' n' c')) cm cT cQ cB a0 e (.slice A' n' c') v3 (acc ++ [i]) cl := by
  have hb1 := fun k hk => (h.own1.block k hk).1
  have hne : ∀ b, b < w.heap.size + 3 → some b ≠ v1.ownBlock := fun b hb e => by have := hb1 b e.symm; omega
  have h0 := h.more ((Ext.refl wr).alloc tmp)
  have n0 : ∀ j, (⟨w.heap.size + 2, 2, none⟩ : Addr) ≠ ⟨w.heap.size, j, none⟩ := fun j e => by have := congrArg Addr.block e; simp at this
  have hlt0 := World.block_lt_of_cell? _ _ h0.m0
  have hcell : ∀ j u, (wr.alloc tmp).cell? ⟨w.heap.size, j, none⟩ = some u → (w'.setCell ⟨w.heap.size + 2, 2, none⟩ (.slice A' n' c')).cell? ⟨w.heap.size, j, none⟩ = some u := fun j u hu => by
    rw [World.cell?_setCell_other _ _ _ _ (n0 j)]
    have hb := hg.block w.heap.size hlt0 (hne _ (by omega))
    unfold World.cell? at hu ⊢
    rw [hb]
    exact hu
  refine ⟨((h0.ext.grown hg (fun k hk => by have := hb1 k hk; omega)).setCell (by show w.heap.size ≤ w.heap.size + 2; omega) _), hcell 0 _ h0.m0, hcell 1 _ h0.m1, hcell 2 _ h0.m2, hcell 3 _ h0.m3,
    (h0.res.grown hg (hne _ (by omega))).far (by show w.heap.size + 2 ≠ w.heap.size + 1; omega), (h0.bx.grown hg (hne _ (by omega))).put2 _, ho.set_far (fun e => by have := (ho.block _ e).1; have : w.heap.size + 3 ≤ w.heap.size + 2 := this; omega) (fun _ h => h.elim), ?_⟩
  have hk := h0.own3.kept hg (own_types h0.own3 h0.own1 (by decide)) (fun b hb _ hc => hg.block b hc.lt hb.2.2)
  have hk2 := own_reT (T' := fun b => b < wr.heap.size + 1 ∧ w.heap.size + 3 ≤ b ∧ some b ≠ v1.ownBlock) hk fun b _ hb _ => ⟨by simpa using hb.1, hb.2⟩
  have hk3 := hk2.set_far (p := ⟨w.heap.size + 2, 2, none⟩) (u := .slice A' n' c') (fun e => by have := (hk2.block _ e).1; have : w.heap.size + 3 ≤ w.heap.size + 2 := this; omega) (fun b hb => by show b ≠ w.heap.size + 2; have := hb.2.1; omega)
  refine own_reT hk3 fun b hi hb _ => ⟨hi.lt, hb.2.1, fun e => ?_⟩
  rcases hl b e.symm with h | h
  · exact hb.2.2 h.symm
  · have := hb.1; omega
theorem addCall (h : RkS w wr cm cT cQ cB a0 e v1 v3 acc cl) {x : List Nat} {A' : Option Addr} {n' c' : Nat} {tmp : Obj} (ho : OwnS u32sR w' (w.heap.size + 3) 23 (fun b => b < wr.heap.size ∧ w.heap.size + 3 ≤ b ∧ some b ≠ v1.ownBlock) (.slice A' n' c') (cl ++ [x])) (hg : (wr.alloc tmp).grownBy w' v3.ownBlock) :
    RkS w (w'.setCell ⟨w.heap.size + 2, 4, none⟩ (.slice A' n' c')) cm cT cQ cB a0 e v1 (.slice A' n' c') acc (cl ++ [x]) := by
  have hb1 := fun k hk => (h.own3.block k hk).1
  have hne : ∀ b, b < w.heap.size + 3 → some b ≠ v3.ownBlock := fun b hb e => by have := hb1 b e.symm; omega
  have h0 := h.more ((Ext.refl wr).alloc tmp)
  have n0 : ∀ j, (⟨w.heap.size + 2, 4, none⟩ : Addr) ≠ ⟨w.heap.size, j, none⟩ := fun j e => by have := congrArg Addr.block e; simp at this
  have hlt0 := World.block_lt_of_cell? _ _ h0.m0
  have hcell : ∀ j u, (wr.alloc tmp).cell? ⟨w.heap.size, j, none⟩ = some u → (w'.setCell ⟨w.heap.size + 2, 4, none⟩ (.slice A' n' c')).cell? ⟨w.heap.size, j, none⟩ = some u := fun j u hu => by
    rw [World.cell?_setCell_other _ _ _ _ (n0 j)]
    have hb := hg.block w.heap.size hlt0 (hne _ (by omega))
    unfold World.cell? at hu ⊢
    rw [hb]
    exact hu
  have hs := hg.size
  have hk := h0.own1.kept hg (own_types h0.own1 h0.own3 (by decide)) (fun b hb => hb.elim)
  refine ⟨((h0.ext.grown hg (fun k hk => by have := hb1 k hk; omega)).setCell (by show w.heap.size ≤ w.heap.size + 2; omega) _), hcell 0 _ h0.m0, hcell 1 _ h0.m1, hcell 2 _ h0.m2, hcell 3 _ h0.m3,
    (h0.res.grown hg (hne _ (by omega))).far (by show w.heap.size + 2 ≠ w.heap.size + 1; omega), (h0.bx.grown hg (hne _ (by omega))).put4 _, hk.set_far (fun e => by have := (hk.block _ e).1; have : w.heap.size + 3 ≤ w.heap.size + 2 := this; omega) (fun _ h => h.elim), ?_⟩
  have := ho.set_far (p := ⟨w.heap.size + 2, 4, none⟩) (u := .slice A' n' c') (fun e => by have := (ho.block _ e).1; have : w.heap.size + 3 ≤ w.heap.size + 2 := this; omega) (fun b hb => by show b ≠ w.heap.size + 2; have := hb.2.1; omega)
  exact own_reT this fun b hi hb _ => ⟨hi.lt, hb.2⟩
/-- A row that was just laid may be listed among the calls. -/
theorem rowOk {W5 : World} (h : RkS w wr cm cT cQ cB a0 e v1 v3 acc cl) (he : Ext wr W5) {A : Option Addr} {n c : Nat} {x : List Nat} (ho : OwnS u32R W5 wr.heap.size 39 All (.slice A n c) x) :
    Sl u32R W5 (fun b => (b < W5.heap.size ∧ w.heap.size + 3 ≤ b ∧ some b ≠ v1.ownBlock) ∧ some b ≠ v3.ownBlock) (.slice A n c) x := by
  have hlt := h.bx.lt
  refine (ho.num_sl (S := fun b => wr.heap.size ≤ b) (fun k hk => hk)).mono fun b hb hi => ⟨⟨hi.lt, by omega, fun e => ?_⟩, fun e => ?_⟩
  · have := (h.own1.block _ e.symm).2; omega
  · have := (h.own3.block _ e.symm).2; omega
end RkS
/-- What it holds while it lists the successors. -/
structure RkT (w : World) (V : Nat) (wr : World) (cm cT cQ cB : Value) (a0 e : Nat) (v1 v2 v3 : Value) (acc : List In) (cl : List (List Nat)) (M : List Nat) : Prop where
  ext : Ext w wr
  m0 : wr.cell? ⟨w.heap.size, 0, none⟩ = some cm
  m1 : wr.cell? ⟨w.heap.size, 1, none⟩ = some cT
  m2 : wr.cell? ⟨w.heap.size, 2, none⟩ = some cQ
  m3 : wr.cell? ⟨w.heap.size, 3, none⟩ = some cB
  res : Box5 wr (w.heap.size + 1) (.int .u32 0) (.int .u32 0) (.slice none 0 0) (.slice none 0 0) (.slice none 0 0)
  bx : Box5 wr (w.heap.size + 2) (.int .u32 a0) (.int .u32 e) v1 v2 v3
  lt : w.heap.size + 3 ≤ V
  sl1 : Sl insR wr (fun b => w.heap.size + 3 ≤ b ∧ b < V) v1 acc
  sl3 : Sl u32sR wr (fun b => w.heap.size + 3 ≤ b ∧ b < V) v3 cl
  own2 : OwnS u32R wr V 39 All v2 M
  vle : V ≤ wr.heap.size
namespace RkT
variable {w wr w' : World} {V : Nat} {cm cT cQ cB : Value} {a0 e : Nat} {v1 v2 v3 : Value} {acc : List In} {cl : List (List Nat)} {M : List Nat}
theorem start (h : RkS w wr cm cT cQ cB a0 e v1 v3 acc cl) : RkT w wr.heap.size wr cm cT cQ cB a0 e v1 (.slice none 0 0) v3 acc cl [] :=
  ⟨h.ext, h.m0, h.m1, h.m2, h.m3, h.res, h.bx, h.bx.lt, h.own1.slT (fun _ h => h.elim) (fun k hk => h.own1.block k hk), h.own3.slT (fun _ hb => ⟨hb.2.1, hb.1⟩) (fun k hk => h.own3.block k hk), OwnS.nil, Nat.le_refl _⟩
theorem more (h : RkT w V wr cm cT cQ cB a0 e v1 v2 v3 acc cl M) (he : Ext wr w') : RkT w V w' cm cT cQ cB a0 e v1 v2 v3 acc cl M :=
  ⟨h.ext.trans he, he.cell h.m0, he.cell h.m1, he.cell h.m2, he.cell h.m3, h.res.ext he, h.bx.ext he, h.lt, h.sl1.ext he, h.sl3.ext he, h.own2.ext he, Nat.le_trans h.vle he.size⟩
theorem addS (h : RkT w V wr cm cT cQ cB a0 e v1 v2 v3 acc cl M) {x : Nat} {A' : Option Addr} {n' c' : Nat} {tmp : Obj} (ho : OwnS u32R w' V 39 All (.slice A' n' c') (M ++ [x])) (hg : (wr.alloc tmp).grownBy w' v2.ownBlock) :
    RkT w V (w'.setCell ⟨w.heap.size + 2, 3, none⟩ (.slice A' n' c')) cm cT cQ cB a0 e v1 (.slice A' n' c') v3 acc cl (M ++ [x]) := by
  have hV := h.lt
  have hb1 := fun k hk => (h.own2.block k hk).1
  have hne : ∀ b, b < V → some b ≠ v2.ownBlock := fun b hb e => by have := hb1 b e.symm; omega
  have h0 := h.more ((Ext.refl wr).alloc tmp)
  have n0 : ∀ j, (⟨w.heap.size + 2, 3, none⟩ : Addr) ≠ ⟨w.heap.size, j, none⟩ := fun j e => by have := congrArg Addr.block e; simp at this
  have hlt0 := World.block_lt_of_cell? _ _ h0.m0
  have hcell : ∀ j u, (wr.alloc tmp).cell? ⟨w.heap.size, j, none⟩ = some u → (w'.setCell ⟨w.heap.size + 2, 3, none⟩ (.slice A' n' c')).cell? ⟨w.heap.size, j, none⟩ = some u := fun j u hu => by
    rw [World.cell?_setCell_other _ _ _ _ (n0 j)]
    have hb := hg.block w.heap.size hlt0 (hne _ (by omega))
    unfold World.cell? at hu ⊢
    rw [hb]
    exact hu
  have hkeep : ∀ b, w.heap.size + 3 ≤ b ∧ b < V → IsCells (wr.alloc tmp) b → (w'.setCell ⟨w.heap.size + 2, 3, none⟩ (.slice A' n' c')).heap[b]? = (wr.alloc tmp).heap[b]? := fun b hb hi =>
    (Below.heap_setCell _ _ _ b (by show b ≠ w.heap.size + 2; omega)).trans (hg.block b hi.lt (hne b hb.2))
  refine ⟨((h0.ext.grown hg (fun k hk => by have := hb1 k hk; omega)).setCell (by show w.heap.size ≤ w.heap.size + 2; omega) _), hcell 0 _ h0.m0, hcell 1 _ h0.m1, hcell 2 _ h0.m2, hcell 3 _ h0.m3, (h0.res.grown hg (hne _ (by omega))).far (by show w.heap.size + 2 ≠ w.heap.size + 1; omega), (h0.bx.grown hg (hne _ (by omega))).put3 _, hV, h0.sl1.keep hkeep, h0.sl3.keep hkeep, ?_, ?_⟩
  · have e1 : (numR .u32 4294967296).size = 1 := rfl
    obtain ⟨xs, h1, h2⟩ := ho
    refine ⟨xs, ?_, chunks_num.2 (chunks_num.1 h2)⟩
    have hx : OwnS u32R w' V 39 (fun b => V ≤ b) (.slice A' n' c') (M ++ [x]) := ⟨xs, h1, chunks_num.2 (chunks_num.1 h2)⟩
    have hy := hx.set_far (p := ⟨w.heap.size + 2, 3, none⟩) (u := .slice A' n' c') (fun e => by have := (hx.block _ e).1; have : V ≤ w.heap.size + 2 := this; omega) (fun b hb => by show b ≠ w.heap.size + 2; omega)
    obtain ⟨ys, h3, h4⟩ := hy
    rw [(chunks_num.1 h2).1, ← (chunks_num.1 h4).1]
    exact h3
  · have h1 := h0.vle
    have h2 := hg.size
    have h3 : (w'.setCell ⟨w.heap.size + 2, 3, none⟩ (.slice A' n' c')).heap.size = w'.heap.size := by simp
    omega
theorem done (h : RkT w V wr cm cT cQ cB a0 e v1 v2 v3 acc cl M) (u0 u1 u2 u3 u4 : Value) {W : World} (hW : ((((wr.setCell ⟨w.heap.size + 1, 0, none⟩ u0).setCell ⟨w.heap.size + 1, 1, none⟩ u1).setCell ⟨w.heap.size + 1, 2, none⟩ u2).setCell ⟨w.heap.size + 1, 3, none⟩ u3).setCell ⟨w.heap.size + 1, 4, none⟩ u4 = W) :
    Ext w W ∧ Sl insR W (fun b => w.heap.size ≤ b) v1 acc ∧ Sl u32R W (fun b => w.heap.size ≤ b) v2 M ∧ Sl u32sR W (fun b => w.heap.size ≤ b) v3 cl := by
  have hV := h.lt
  have hle : ∀ j, w.heap.size ≤ (⟨w.heap.size + 1, j, none⟩ : Addr).block := fun j => by show w.heap.size ≤ w.heap.size + 1; omega
  have hb : ∀ b, w.heap.size + 3 ≤ b → W.heap[b]? = wr.heap[b]? := fun b hb => by
    have hne : ∀ j, b ≠ (⟨w.heap.size + 1, j, none⟩ : Addr).block := fun j => by show b ≠ w.heap.size + 1; omega
    rw [← hW]
    exact (Below.heap_setCell _ _ _ b (hne _)).trans ((Below.heap_setCell _ _ _ b (hne _)).trans ((Below.heap_setCell _ _ _ b (hne _)).trans ((Below.heap_setCell _ _ _ b (hne _)).trans (Below.heap_setCell _ _ _ b (hne _)))))
  refine ⟨by rw [← hW]; exact ((((h.ext.setCell (hle _) _).setCell (hle _) _).setCell (hle _) _).setCell (hle _) _).setCell (hle _) _, (h.sl1.keep (w' := W) fun b hs _ => hb b hs.1).mono (fun b hs _ => by have := hs.1; omega), ?_, (h.sl3.keep (w' := W) fun b hs _ => hb b hs.1).mono (fun b hs _ => by have := hs.1; omega)⟩
  exact ((h.own2.num_sl (S := fun b => V ≤ b) (fun k hk => hk)).keep (w' := W) fun b hs _ => hb b (by omega)).mono (fun b hs _ => by omega)
end RkT
theorem KeepsI.addR {w V wr w' : World} {cm cT cQ cB : Value} {a0 e : Nat} {v1 v3 : Value} {acc : List In} {cl : List (List Nat)} {M : List Nat} {A : Option Addr} {n c : Nat} (h : KeepsI V wr) (hb : RkT w V.heap.size wr cm cT cQ cB a0 e v1 (.slice A n c) v3 acc cl M) {tmp : Obj} {u : Value}
    (hg : (wr.alloc tmp).grownBy w' (Value.slice A n c).ownBlock) : KeepsI V (w'.setCell ⟨w.heap.size + 2, 3, none⟩ u) := fun b off x hx => by
  have h1 := h b off x hx
  have hlt : b < V.heap.size := World.block_lt_of_cell? _ _ hx
  have hne : (⟨w.heap.size + 2, 3, none⟩ : Addr) ≠ ⟨b, off, none⟩ := fun e => by
    have := hb.bx.c3
    rw [e, h1] at this
    cases this
  rw [World.cell?_setCell_other _ _ _ _ hne]
  have h2 := ((Ext.refl wr).alloc tmp).cell h1
  have h3 := hg.block b (World.block_lt_of_cell? _ _ h2) (fun e => by have := (hb.own2.block _ e.symm).1; omega)
  unfold World.cell? at h2 ⊢
  rw [h3]
  exact h2
/-- Blocks but the box stay as they are. -/
def KeepO (w V wr : World) : Prop := ∀ b, b < V.heap.size → b ≠ w.heap.size + 2 → wr.heap[b]? = V.heap[b]?
theorem KeepO.more {w V wr w' : World} (h : KeepO w V wr) (hv : V.heap.size ≤ wr.heap.size) (he : Ext wr w') : KeepO w V w' := fun b hb hn => (he.block (by omega)).trans (h b hb hn)
theorem KeepO.addR {w V wr w' : World} {cm cT cQ cB : Value} {a0 e : Nat} {v1 v2 v3 : Value} {acc : List In} {cl : List (List Nat)} {M : List Nat} (h : KeepO w V wr) (hb : RkT w V.heap.size wr cm cT cQ cB a0 e v1 v2 v3 acc cl M) {tmp : Obj} {u : Value}
    (hg : (wr.alloc tmp).grownBy w' v2.ownBlock) : KeepO w V (w'.setCell ⟨w.heap.size + 2, 3, none⟩ u) := fun b hl hn => by
  have hv := hb.vle
  refine (Below.heap_setCell _ _ _ b hn).trans ((hg.block b (by simp; omega) (fun e => ?_)).trans ((Below.heap_alloc _ _ _ (by omega)).trans (h b hl hn)))
  have := (hb.own2.block _ e.symm).1
  omega
end Go.Proofs.Ytolbnhkdpbdhhaa

namespace Go.Proofs.Ytolbnhkdpbdhhaa
open Go.RowKit Go.Deco
set_option linter.unusedSimpArgs false
set_option linter.unusedVariables false

set_option maxRecDepth 100000 in
set_option maxHeartbeats 4000000 in
theorem rblock_any (w : World) (A E U B T Q L : Option Addr) (n c ne ce nu cu nb cb nt ct nq cq nl cl' a0 : Nat) (ins : List In) (ld : List Nat) (tabs : List (List Nat)) (at_ : List Nat)
    (hi : Sl insR w All (.slice A n c) ins) (ht : Sl u32sR w All (.slice T nt ct) tabs) (hq : Sl u32R w All (.slice Q nq cq) at_) (hl : Sl u32R w All (.slice L nl cl') ld)
    (htl : ∀ t ∈ tabs, t.length ≤ 1000) (ha0 : a0 < 4294967296) (hi0 : ∃ i, firstIn ins a0 = some i) :
    Calls Try.prog 31 #[.agg #[.slice A n c, .slice E ne ce, .slice U nu cu, .slice B nb cb], .slice L nl cl', .int .u32 a0, .slice T nt ct, .slice Q nq cq] w (BkPost w (blockBs ins ld tabs at_ a0)) := by
  obtain ⟨i0, hif, hz0, hz1, hz2⟩ := info_parts info_insn
  obtain ⟨k0, hkf, hk0, hk1, hk2⟩ := info_parts info_w32
  have HKF := hid hkf
  have HK0 := hid hk0
  have HK1 := hid hk1
  have HK2 := hid hk2
  clear hkf hk0 hk1 hk2
  obtain ⟨j0, hjf, hy0, hy1, hy2⟩ := info_parts info_u32s
  have hok := info_insL hi
  have HAT := hid (fun W (h : Ext w W) a => at_any W A n c ins (hi.ext h) a)
  have HTA := hid (fun W (h : Ext w W) a => rtable_any All W T Q nt ct nq cq tabs at_ (ht.ext h) (hq.ext h) a)
  have HTG := hid (fun W (h : Ext w W) i (hi : InOk i) => rtargets_any All W T Q nt ct nq cq tabs at_ (ht.ext h) (hq.ext h) i hi)
  have HRI := hid (fun W (h : Ext w W) x => rin_any W L nl cl' ld (hl.ext h) x)
  have HHA := hid (fun W (h : Ext w W) a => rhas_any W A E U B n c ne ce nu cu nb cb ins (hi.ext h) a)
  obtain ⟨W0, hW0⟩ : ∃ W0, (((w.alloc (.cells #[.slice A n c, .slice E ne ce, .slice U nu cu, .slice B nb cb] 36)).alloc (.cells #[.int .u32 0, .int .u32 0, .slice none 0 0, .slice none 0 0, .slice none 0 0] 42)).alloc (.cells #[.int .u32 0, .int .u32 0, .slice none 0 0, .slice none 0 0, .slice none 0 0] 42)) = W0 := ⟨_, rfl⟩
  have hE : Ext w W0 := by rw [← hW0]; exact (((Ext.refl w).alloc _).alloc _).alloc _
  have hB0 : Box5 W0 (w.heap.size + 1 + 1) (.int .u32 0) (.int .u32 0) (.slice none 0 0) (.slice none 0 0) (.slice none 0 0) := by
    rw [← hW0]
    exact ⟨by simp [go_sem], by simp [go_sem], by simp [go_sem], by simp [go_sem], by simp [go_sem], fun i => by simp [go_sem]⟩
  obtain ⟨W1, hW1⟩ : ∃ W1, W0.setCell ⟨w.heap.size + 1 + 1, 0, none⟩ (.int .u32 a0) = W1 := ⟨_, rfl⟩
  have hB1 : Box5 W1 (w.heap.size + 1 + 1) (.int .u32 a0) (.int .u32 0) (.slice none 0 0) (.slice none 0 0) (.slice none 0 0) := by rw [← hW1]; exact hB0.put0 _
  have hS0 : RkS w W1 (.slice A n c) (.slice E ne ce) (.slice U nu cu) (.slice B nb cb) a0 0 (.slice none 0 0) (.slice none 0 0) [] [] := by
    refine ⟨by rw [← hW1]; exact hE.setCell (by show w.heap.size ≤ w.heap.size + 1 + 1; omega) _, by rw [← hW1, ← hW0]; simp [go_sem, World.cell?_setCell_other], by rw [← hW1, ← hW0]; simp [go_sem, World.cell?_setCell_other], by rw [← hW1, ← hW0]; simp [go_sem, World.cell?_setCell_other], by rw [← hW1, ← hW0]; simp [go_sem, World.cell?_setCell_other], ?_, hB1, OwnS.nil, OwnS.nil⟩
    rw [← hW1]
    refine Box5.far ?_ (by show w.heap.size + 1 + 1 ≠ w.heap.size + 1; omega)
    rw [← hW0]
    exact ⟨by simp [go_sem], by simp [go_sem], by simp [go_sem], by simp [go_sem], by simp [go_sem], fun i => by simp [go_sem]⟩
  obtain ⟨b0, b1, b2, b3, b4, bf⟩ := hB0
  obtain ⟨d0, d1, d2, d3, d4, df⟩ := hB1
  have hr1 : W1.setCell ⟨w.heap.size + 1 + 1, 1, none⟩ (.int .u32 0) = W1 := by rw [← hW1, ← hW0]; simp [go_sem]
  have hr2 : W1.setCell ⟨w.heap.size + 1 + 1, 2, none⟩ (.slice none 0 0) = W1 := by rw [← hW1, ← hW0]; simp [go_sem]
  have hr3 : W1.setCell ⟨w.heap.size + 1 + 1, 3, none⟩ (.slice none 0 0) = W1 := by rw [← hW1, ← hW0]; simp [go_sem]
  have hr4 : W1.setCell ⟨w.heap.size + 1 + 1, 4, none⟩ (.slice none 0 0) = W1 := by rw [← hW1, ← hW0]; simp [go_sem]
  have HS0 := hid hS0
  have HI0 : Hid (BkI ins ld tabs at_ a0 a0 [] []) := hid ⟨hi0, rfl, rfl, by simp, ha0⟩
  have HIF := hid hif
  have HJF := hid hjf
  have HZ0 := hid hz0
  have HZ1 := hid hz1
  have HZ2 := hid hz2
  have HY0 := hid hy0
  have HY1 := hid hy1
  have HY2 := hid hy2
  clear hif hjf hz0 hz1 hz2 hy0 hy1 hy2 hE hS0 hi0 hi ht hq hl
  have HOKA := hid hok
  clear hok
  go_enter Try.func31, Try.ntmps31
  go_upto_block 0 with fail
  go_cut [2] from 12 to 81 (fun s2 wx => ∃ (i : In) (acc : List In) (cl : List (List Nat)) (A1 : Option Addr) (c1 : Nat) (A3 : Option Addr) (c3 : Nat), Hid (RkS w wx (.slice A n c) (.slice E ne ce) (.slice U nu cu) (.slice B nb cb) a0 (nextI i) (.slice A1 (acc ++ [i]).length c1) (.slice A3 cl.length c3) (acc ++ [i]) cl) ∧ Hid (InOk i) ∧ Hid (blkFrom ins ld a0 = acc ++ [i] ∧ cl = callsL tabs at_ (acc ++ [i])))
  case first =>
    go_wp2
    clear hW0 hW1 b0 b1 b2 b3 b4 bf d0 d1 d2 d3 d4 df hr1 hr2 hr3 hr4
    go_loopw [2] (fun s1 wr => ∃ (a e : Nat) (acc : List In) (cl : List (List Nat)) (A1 : Option Addr) (c1 : Nat) (A3 : Option Addr) (c3 : Nat), s1 = .int .u32 a ∧ a < 4294967296 ∧ Hid (RkS w wr (.slice A n c) (.slice E ne ce) (.slice U nu cu) (.slice B nb cb) a0 e (.slice A1 acc.length c1) (.slice A3 cl.length c3) acc cl) ∧ Hid (BkI ins ld tabs at_ a0 a acc cl)) (fun s1 _ => 4294967296 - (intOf s1).toNat)
    case atStart => exact ⟨a0, 0, [], [], none, 0, none, 0, rfl, ha0, HS0, HI0⟩
    case round =>
      obtain ⟨a, e, acc, cl, A1, c1, A3, c3, rfl, ha, hS, hI⟩ := hrel
      obtain ⟨i, hi⟩ := hI.out.here
      have HATR := hid (HAT.out wr hS.out.ext a)
      rw [hi] at HATR
      have HOK := hid (HOKA.out i (firstIn_addr hi).2)
      have HIF1 := hid hi
      have HLA := hid hI.out.len
      have m0 := hS.out.m0
      clear hi
      go_wp2_with fail
      refine (HATR.out).mono ?_
      rintro e w1 ⟨rfl, hx1⟩
      have HS0' := hid (hS.out.more hx1)
      simp only [Option.getD_some, Option.isSome_some, inV]
      clear m0 hx1
      obtain ⟨W1, hW1⟩ : ∃ W1, w1.alloc (.cells #[.int .u32 i.addr, .int .u32 i.imm, .int .i64 i.op, .int .i64 i.form, .int .i64 i.width, .int .i64 i.cc, .int .i64 i.a, .int .i64 i.b, .int .i64 i.size] 61) = W1 := ⟨_, rfl⟩
      have hE1 : Ext w1 W1 := by rw [← hW1]; exact (Ext.refl w1).alloc _
      have HE1 := hid hE1
      have HB9 : Hid (Box9 W1 w1.heap.size i) := hid (by rw [← hW1]; exact Box9.new w1 i _)
      have HZ : Hid (W1.heap.size = w1.heap.size + 1) := hid (by rw [← hW1]; simp)
      have HS1 := hid (HS0'.out.more hE1)
      obtain ⟨c0, c1', c2, c3', c4, c5, c6, c7, c8⟩ := HB9.out
      obtain ⟨x0, x1, x2, x3, x4, xf⟩ := HS1.out.bx
      rw [show w.heap.size + 2 = w.heap.size + 1 + 1 from rfl] at x0 x1 x2 x3 x4 xf
      clear hE1
      go_upto_region 4 with (first
        | (at_builtin; refine wpList_app1l rfl (.tmp 31) (.tmp 33) 22 rfl (w.heap.size + 3) 61 i0 _ 9 64 Try.underlying22 HIF.out HZ0.out HZ1.out HZ2.out rfl insR rfl (.slice A1 acc.length c1) acc rfl HS1.out.own1 W1.heap.size rfl i rfl ⟨rfl, HOK.out⟩ (by have := HLA.out; omega) (by have := HLA.out; omega) (by have := HS1.out.bx.lt; omega) ?_; intro A5 c5' w5 hown5 hg5 hl5; have HO5 := hid hown5; have HG5 := hid hg5; have HL5 := hid hl5; clear hown5 hg5 hl5; have xb := (HS0'.out.bx.ext (HE1.out.alloc _)).grown HG5.out (fun e => by have := (HS1.out.own1.block _ e.symm).1; omega); have x2 := xb.c2; have xf := xb.fz 2; rw [show w.heap.size + 2 = w.heap.size + 1 + 1 from rfl] at x2 xf; clear xb)
        | fail)
      clear x0 x1 x2 x3 x4 xf c0 c1' c2 c3' c4 c5 c6 c7 c8 hW1
      obtain ⟨W6, hW6⟩ : ∃ W6, w5.setCell ⟨w.heap.size + 1 + 1, 2, none⟩ (.slice A5 (acc.length + 1) c5') = W6 := ⟨_, rfl⟩
      have HS6 : Hid (RkS w W6 (.slice A n c) (.slice E ne ce) (.slice U nu cu) (.slice B nb cb) a0 e (.slice A5 (acc.length + 1) c5') (.slice A3 cl.length c3) (acc ++ [i]) cl) := hid (by rw [← hW6]; exact HS1.out.addIns HO5.out HG5.out HL5.out)
      have hB6 : Box9 W6 w1.heap.size i := by
        have hlt := HS0'.out.bx.lt
        refine HB9.out.same ?_
        rw [← hW6]
        refine (Below.heap_setCell _ _ _ _ (by show w1.heap.size ≠ w.heap.size + 1 + 1; omega)).trans ((HG5.out.block _ (by have := HZ.out; simp; omega) (fun e => ?_)).trans (Below.heap_alloc _ _ _ (by have := HZ.out; omega)))
        have h1 := (HS0'.out.own1.block _ e.symm).2
        omega
      rw [hW6]
      have HB6 := hid hB6
      obtain ⟨c0, c1', c2, c3', c4, c5, c6, c7, c8⟩ := hB6
      clear hW6 HO5 HG5 HL5 HB9 HZ
      go_upto_if 38 with fail
      go_cut [14, 15, 16] from 38 to 55 (fun s14 s15 s16 wx => ∃ (A7 : Option Addr) (c7 : Nat), Hid (RkS w wx (.slice A n c) (.slice E ne ce) (.slice U nu cu) (.slice B nb cb) a0 e (.slice A5 (acc.length + 1) c5') (.slice A7 (callsL tabs at_ (acc ++ [i])).length c7) (acc ++ [i]) (callsL tabs at_ (acc ++ [i]))) ∧ Hid (Box9 wx w1.heap.size i))
      case first =>
        by_cases h24 : i.op = 24
        · have h24b : (i.op == 24) = true := by simpa using h24
          have H24 := hid h24
          have hcl2 := callsL_hit (tabs := tabs) (at_ := at_) (l := acc) h24
          have htl2 := tab_len htl at_ i.addr
          have HTI := hid (HTA.out W6 HS6.out.ext i.addr)
          obtain ⟨tr, htr⟩ : ∃ tr, tabOf tabs at_ i.addr = tr := ⟨_, rfl⟩
          rw [htr] at HTI hcl2 htl2
          obtain ⟨R, hR⟩ : ∃ R, tr.getD [] = R := ⟨_, rfl⟩
          have HR := hid hR
          rw [hR] at hcl2 htl2
          have HCL2 := hid hcl2
          have HTL2 := hid htl2
          clear h24 htr hR hcl2 htl2
          go_wp2_with fail
          refine (HTI.out).mono ?_
          rintro ee w7 ⟨hx7, AT, cT, rfl, hsT⟩
          obtain ⟨bT, hbT⟩ : ∃ b, tr.isSome = b := ⟨_, rfl⟩
          rw [HR.out] at hsT ⊢
          rw [hbT]
          have HX7 := hid hx7
          have HST := hid (hsT.ext hx7)
          have HS7 := hid (HS6.out.more hx7)
          have HB7 := hid (HB6.out.ext hx7)
          clear hx7 hsT hbT c0 c1' c2 c3' c4 c5 c6 c7 c8
          have hlen : cl.length ≤ 4294967296 := by
            have h1 := callsL_len tabs at_ acc
            rw [← hI.out.calls] at h1
            have := HLA.out
            omega
          go_upto_region 8 with (first
            | (at_builtin; refine wpList_appS rfl (.tmp 47) (.tmp 48) 23 rfl w7.heap.size 39 k0 _ 1 4 Try.underlying23 HKF.out HK0.out HK1.out HK2.out rfl u32R rfl (.slice none 0 0) [] rfl OwnS.nil AT R.length cT R All rfl HST.out (fun d _ _ => ⟨trivial, own_nil⟩) (by have := HTL2.out; simp; omega) (by have := HTL2.out; simp; omega) (Nat.le_refl _) ?_; intro A8 c8 w8 hown8 hg8 _; have HO8 := hid hown8; have HX8 := hid ((Ext.refl w7).grown hg8 (fun k hk => by cases hk)); clear hown8 hg8)
            | fail)
          have ho8 := HO8.out
          rw [List.nil_append, List.length_nil, Nat.zero_add] at ho8
          have HR8 := hid (HS7.out.rowOk HX8.out ho8)
          have HS8 := hid (HS7.out.more HX8.out)
          have HB8 := hid (HB7.out.ext HX8.out)
          have x4 := HS8.out.bx.c4
          have xf := HS8.out.bx.fz 4
          rw [show w.heap.size + 2 = w.heap.size + 1 + 1 from rfl] at x4 xf
          clear ho8 HO8
          go_wp2_with (first
            | (at_builtin; refine wpList_app1s rfl (.tmp 51) (.tmp 53) 26 rfl (w.heap.size + 3) 23 j0 _ 1 24 Try.underlying26 HJF.out HY0.out HY1.out HY2.out rfl u32sR rfl (.slice A3 cl.length c3) cl rfl HS8.out.own3 w8.heap.size rfl R rfl ⟨_, rfl, HR8.out⟩ (by omega) (by omega) (by have := HS8.out.bx.lt; omega) ?_; intro A9 c9 w9 hown9 hg9; have HO9 := hid hown9; have HG9 := hid hg9; have xb := (HS8.out.bx.ext ((Ext.refl w8).alloc _)).grown HG9.out (fun e => by have := (HS8.out.own3.block _ e.symm).1; omega); have x49 := xb.c4; have xf9 := xb.fz 4; rw [show w.heap.size + 2 = w.heap.size + 1 + 1 from rfl] at x49 xf9; clear xb hown9 hg9)
            | fail)
          go_meet
          have HSA := hid (HS8.out.addCall HO9.out HG9.out)
          have hlt8 := World.block_lt_of_cell? _ _ HB8.out.c0
          have hlt := HS0'.out.bx.lt
          have he := HCL2.out
          rw [← hI.out.calls] at he
          refine ⟨A9, c9, ?_, hid (HB8.out.same ?_)⟩
          · rw [he]
            simpa using HSA
          · refine (Below.heap_setCell _ _ _ _ (by show w1.heap.size ≠ w.heap.size + 1 + 1; omega)).trans ((HG9.out.block _ (by have : w1.heap.size < w8.heap.size := hlt8; simp; omega) (fun e => ?_)).trans (Below.heap_alloc _ _ _ hlt8))
            have h1 := (HS0'.out.own3.block _ e.symm).2
            omega
        · have h24b : (i.op == 24) = false := by simpa using h24
          have H24 := hid h24
          clear h24
          go_wp2
          go_meet
          refine ⟨A3, c3, ?_, HB6⟩
          rw [callsL_miss H24.out, ← hI.out.calls]
          exact HS6
      case rest =>
        obtain ⟨A7, c7, hS7, hB7⟩ := hcut
        have HNX := hid (rnext_any wc i HOK.out)
        obtain ⟨x0, x1, x2, x3, x4, xf⟩ := hS7.out.bx
        rw [show w.heap.size + 2 = w.heap.size + 1 + 1 from rfl] at x0 x1 x2 x3 x4 xf
        obtain ⟨c0, c1', c2, c3', c4, c5, c6, c7', c8⟩ := hB7.out
        clear x0 x2 x3 x4
        have e9 : inV i = .agg #[.int .u32 i.addr, .int .u32 i.imm, .int .i64 i.op, .int .i64 i.form, .int .i64 i.width, .int .i64 i.cc, .int .i64 i.a, .int .i64 i.b, .int .i64 i.size] := rfl
        rw [e9] at HNX
        clear e9
        obtain ⟨nx, hnx'⟩ : ∃ nx, nextI i = nx := ⟨_, rfl⟩
        have hnlt := nextI_lt i
        rw [hnx'] at HNX hnlt
        have HNXE := hid hnx'
        clear hnx'
        go_wp2_with fail
        refine (HNX.out).mono ?_
        rintro e8 w8 ⟨rfl, hx8⟩
        have HS8 := hid (hS7.out.more hx8)
        have HB8 := hid (hB7.out.ext hx8)
        have x1 := hx8.cell x1
        have xf : w8.frozen? ⟨w.heap.size + 1 + 1, 1, none⟩ = false := HS8.out.bx.fz 1
        clear c0 c1' c2 c3' c4 c5 c6 c7' c8 hx8
        go_upto_region 10 with fail
        obtain ⟨W9, hW9⟩ : ∃ W9, w8.setCell ⟨w.heap.size + 1 + 1, 1, none⟩ (.int .u32 nx) = W9 := ⟨_, rfl⟩
        have HS9 := hid (show RkS w W9 _ _ _ _ _ _ _ _ _ _ from by rw [← hW9]; exact HS8.out.setEnd nx)
        have HB9 := hid (show Box9 W9 w1.heap.size i from HB8.out.same (by rw [← hW9]; exact Below.heap_setCell _ _ _ _ (by have := HS0'.out.bx.lt; show w1.heap.size ≠ w.heap.size + 1 + 1; omega)))
        rw [hW9]
        clear hW9 x1 xf
        obtain ⟨f, hf⟩ : ∃ f, hasIn ins nx = f := ⟨_, rfl⟩
        have HFF := hid hf
        obtain ⟨lb, hlb⟩ : ∃ lb, ld.contains nx = lb := ⟨_, rfl⟩
        have HLB := hid hlb
        have HHN := hid (fun W h => HHA.out W h nx)
        have HRN := hid (fun W h => HRI.out W h nx)
        rw [hf] at HHN
        rw [hlb] at HRN
        have HCE := hid (fun W => rends_any W i)
        have e9 : inV i = .agg #[.int .u32 i.addr, .int .u32 i.imm, .int .i64 i.op, .int .i64 i.form, .int .i64 i.width, .int .i64 i.cc, .int .i64 i.a, .int .i64 i.b, .int .i64 i.size] := rfl
        rw [e9] at HCE
        obtain ⟨c0, c1', c2, c3', c4, c5, c6, c7', c8⟩ := HB9.out
        obtain ⟨sb, hsb⟩ : ∃ sb, stopB ins ld a i = sb := ⟨_, rfl⟩
        have HSB := hid hsb
        obtain ⟨st, hst⟩ : ∃ st, stopsI i = st := ⟨_, rfl⟩
        rw [hst] at HCE
        have HSB2 : Hid (sb = (st || (lb || (!f || decide (nx ≤ a))))) := hid (by rw [← hsb, ← hst, ← HLB.out, ← HFF.out, ← HNXE.out]; rfl)
        have y1 := HS9.out.bx.c1
        rw [show w.heap.size + 2 = w.heap.size + 1 + 1 from rfl] at y1
        clear hsb hst hf hlb e9
        go_cut [79] from 59 to 79 (fun s82 wx => s82 = .bool sb ∧ Hid (Ext W9 wx))
        case first =>
          go_wp2_with fail
          refine (HCE.out _).mono ?_
          rintro e12 w12 ⟨rfl, hx12⟩
          have y1 := hx12.cell y1
          have HX12 := hid hx12
          have HS12 := hid (HS9.out.more hx12)
          clear hx12 c0 c1' c2 c3' c4 c5 c6 c7' c8
          cases st with
          | true =>
            go_wp2
            go_meet
            exact ⟨by rw [HSB2.out]; rfl, HX12⟩
          | false =>
            go_wp2_with fail
            refine (HRN.out _ HS12.out.ext).mono ?_
            rintro e13 w13 ⟨rfl, hw13⟩
            subst hw13
            cases lb with
            | true =>
              go_wp2
              go_meet
              exact ⟨by rw [HSB2.out]; rfl, HX12⟩
            | false =>
              have m0 := HS12.out.m0
              have m1 := HS12.out.m1
              have m2 := HS12.out.m2
              have m3 := HS12.out.m3
              go_wp2_with fail
              refine (HHN.out _ HS12.out.ext).mono ?_
              rintro e14 w14 ⟨rfl, hx14⟩
              have y1 := hx14.cell y1
              have HX14 := hid (HX12.out.trans hx14)
              clear hx14 m0 m1 m2 m3
              cases f with
              | false =>
                go_wp2
                go_meet
                exact ⟨by rw [HSB2.out]; rfl, HX14⟩
              | true =>
                go_wp2
                go_meet
                refine ⟨?_, HX14⟩
                rw [HSB2.out]
                simp
        case rest =>
          obtain ⟨rfl, hx12⟩ := hcut
          clear c0 c1' c2 c3' c4 c5 c6 c7' c8
          have y1 := hx12.out.cell y1
          have HS12 := hid (HS9.out.more hx12.out)
          cases sb with
          | true =>
            clear y1
            go_wp2
            go_meet
            refine ⟨i, acc, callsL tabs at_ (acc ++ [i]), A5, c5', A7, c7, ?_, HOK, hid ⟨?_, rfl⟩⟩
            · rw [HNXE.out]
              simpa using HS12
            · rw [← hI.out.all, blkFrom_stop ha HIF1.out HSB.out]
          | false =>
            go_wp2
            first
              | go_roundw
              | refine ⟨?rel, ?measure⟩
            case rel =>
              have hgt := (stopB_next HSB.out).1
              rw [HNXE.out] at hgt
              refine ⟨nx, nx, acc ++ [i], callsL tabs at_ (acc ++ [i]), A5, c5', A7, c7, rfl, hnlt, by simpa using HS12, hid ⟨?_, ?_, rfl, ?_, hnlt⟩⟩
              · have := (stopB_next HSB.out).2
                rw [HNXE.out] at this
                exact Option.isSome_iff_exists.1 this
              · rw [← hI.out.all, blkFrom_next ha HIF1.out HSB.out, HNXE.out]
                simp
              · have := HLA.out
                simp
                omega
            case measure =>
              have hgt := (stopB_next HSB.out).1
              rw [HNXE.out] at hgt
              simp [intOf]
              omega
  case rest =>
    clear hW0 hW1 b0 b1 b2 b3 b4 bf d0 d1 d2 d3 d4 df hr1 hr2 hr3 hr4
    obtain ⟨i, acc, cl, A1, c1, A3, c3, hS, hOK, hP⟩ := hcut
    have hS' := hS.out
    rw [List.length_append, List.length_singleton] at hS'
    obtain ⟨bI, offI, rfl, -, q0, q1, q2, q3, q4, q5, q6, q7, q8⟩ := Sl.in_at (A := A1) (n := acc.length + 1) (c := c1) (k := acc.length) (l := acc ++ [i]) hS'.own1.sl (show (acc ++ [i])[acc.length]? = some i by simp)
    have HS := hid hS'
    obtain ⟨m, hm⟩ : ∃ m, acc.length = m := ⟨_, rfl⟩
    rw [hm] at HS q0 q1 q2 q3 q4 q5 q6 q7 q8
    have HM2 := hid hm
    have HCAP := hid hS'.own1.sl.cap
    obtain ⟨x0, x1, x2, x3, x4, xf⟩ := HS.out.bx
    rw [show w.heap.size + 2 = w.heap.size + 1 + 1 from rfl] at x0 x1 x2 x3 x4 xf
    clear hS hS' hm x0 x1 x3 x4 xf
    obtain ⟨W1, hW1⟩ : ∃ W1, wc.alloc (.cells #[.int .u32 i.addr, .int .u32 i.imm, .int .i64 i.op, .int .i64 i.form, .int .i64 i.width, .int .i64 i.cc, .int .i64 i.a, .int .i64 i.b, .int .i64 i.size] 61) = W1 := ⟨_, rfl⟩
    have hE1 : Ext wc W1 := by rw [← hW1]; exact (Ext.refl wc).alloc _
    have HB9 : Hid (Box9 W1 wc.heap.size i) := hid (by rw [← hW1]; exact Box9.new wc i _)
    have HS1 := hid (HS.out.more hE1)
    have HE1 := hid hE1
    clear hE1
    have hwm : IntKind.i64.wrap (m : Int) = m := IntWalk.i64_in _ (by have := HCAP.out; have := HM2.out; omega)
    go_upto_region 13 with fail
    clear hwm
    clear q0 q1 q2 q3 q4 q5 q6 q7 q8 x2 hW1
    obtain ⟨c0, c1', c2, c3', c4, c5, c6, c7', c8⟩ := HB9.out
    have HTGI := hid (HTG.out W1 HS1.out.ext i hOK.out)
    have e9 : inV i = .agg #[.int .u32 i.addr, .int .u32 i.imm, .int .i64 i.op, .int .i64 i.form, .int .i64 i.width, .int .i64 i.cc, .int .i64 i.a, .int .i64 i.b, .int .i64 i.size] := rfl
    have HIE := hid (fun W => rends_any W i)
    rw [e9] at HTGI HIE
    clear e9
    obtain ⟨R, hR⟩ : ∃ R, tgtI tabs at_ i = R := ⟨_, rfl⟩
    have hRL : R.length ≤ 1000 := by
      rw [← hR]
      unfold tgtI
      split
      · simp
      · split
        · exact tab_len htl at_ i.addr
        · simp
    rw [hR] at HTGI
    have HR := hid hR
    clear hR
    go_wp2_with fail
    refine (HTGI.out).mono ?_
    rintro e2 V ⟨hx2, AT, cT, rfl, hsT⟩
    have HS2 := hid (HS1.out.more hx2)
    have HST := hid hsT
    have HB2 := hid (HB9.out.ext hx2)
    have HT0 := hid (RkT.start HS2.out)
    obtain ⟨N, hN⟩ : ∃ N, R.length = N := ⟨_, rfl⟩
    rw [hN] at HST hRL ⊢
    have HCZ := hid HST.out.cap
    have HN := hid hN
    clear hx2 hsT hN c0 c1' c2 c3' c4 c5 c6 c7' c8
    obtain ⟨sz, hsz⟩ : ∃ sz, wc.heap.size = sz := ⟨_, rfl⟩
    rw [hsz] at HB2
    have HBL := hid (World.block_lt_of_cell? _ _ HB2.out.c0)
    have HBN : Hid (sz ≠ w.heap.size + 2) := hid (by have := HS.out.bx.lt; omega)
    go_wp2
    clear hsz
    go_loopw [19] (fun s19 wr => ∃ (k : Nat) (A2 : Option Addr) (c2 : Nat) (M : List Nat), k ≤ N ∧ s19 = .int .i64 k ∧ Hid (RkT w V.heap.size wr (.slice A n c) (.slice E ne ce) (.slice U nu cu) (.slice B nb cb) a0 (nextI i) (.slice (some ⟨bI, offI, none⟩) (m + 1) c1) (.slice A2 M.length c2) (.slice A3 cl.length c3) (acc ++ [i]) cl M) ∧ Hid (KeepsI V wr) ∧ Hid (KeepO w V wr) ∧ Hid (M = (R.take k).filter (hasIn ins))) (fun s19 _ => N - (intOf s19).toNat)
    case atStart => exact ⟨0, none, 0, [], by omega, rfl, HT0, hid (fun _ _ _ h => h), hid (fun _ _ _ => rfl), hid (by simp)⟩
    case round =>
      obtain ⟨k, A2, c2, M, hk, rfl, hT, hK, hKO, hM⟩ := hrel
      have m0 := hT.out.m0
      have m1 := hT.out.m1
      have m2 := hT.out.m2
      have m3 := hT.out.m3
      by_cases h1 : k < N
      · obtain ⟨x, hx⟩ : ∃ x, R[k]? = some x := ⟨_, List.getElem?_eq_getElem (by have := HN.out; omega)⟩
        obtain ⟨bz, oz, rfl, hvc, hx32⟩ := Sl.num_at HST.out hx
        have xk := hK.out _ _ _ hvc
        have HVC := hid (World.block_lt_of_cell? _ _ hvc)
        have HX := hid hx
        have i1 : (k : Int) < (N : Int) := by omega
        have i0' : (0 : Int) ≤ (k : Int) := by omega
        have hML : M.length ≤ k := by
          rw [hM.out]
          refine Nat.le_trans (List.length_filter_le _ _) ?_
          rw [List.length_take]
          omega
        obtain ⟨f, hf⟩ : ∃ f, hasIn ins x = f := ⟨_, rfl⟩
        have HFF := hid hf
        have HHX := hid (fun W h => HHA.out W h x)
        rw [hf] at HHX
        clear hf hvc hx
        go_wp2_with fail
        refine wp_region_held_drew (S := (fun w' => w'.cell? ⟨w.heap.size, 0, none⟩ = some (.slice A n c) ∧ w'.cell? ⟨w.heap.size, 1, none⟩ = some (.slice E ne ce) ∧ w'.cell? ⟨w.heap.size, 2, none⟩ = some (.slice U nu cu) ∧ w'.cell? ⟨w.heap.size, 3, none⟩ = some (.slice B nb cb) ∧ w'.cell? ⟨bz, oz + k, none⟩ = some (.int .u32 x))) (by kernel_rfl) ⟨m0, m1, m2, m3, xk⟩ (fun hSg1q0 => ?_)
        refine wpAnyH_takeL (i := 0) (v := ?g1qv0) rfl (by kernel_rfl) (by kernel_rfl) (by kernel_rfl) (fun _ _ _ h => h) (Or.inl ⟨by rfl, ?g1qy0⟩) (by assumption) ?g1qr0
        case g1qy0 => first | (intro w hSw; (try dsimp only at hSw); go_simp; done) | (intro w hSw; (try dsimp only at hSw); go_simp; with_reducible rfl)
        case' g1qr0 => try simp only [Act.put, List.setIfInBounds_toArray, List.set_cons_zero, List.set_cons_succ]
        refine wpAnyH_takeL (i := 1) (v := ?g1qv1) rfl (by kernel_rfl) (by kernel_rfl) (by kernel_rfl) (fun _ _ _ h => h) (Or.inl ⟨by rfl, ?g1qy1⟩) (by assumption) ?g1qr1
        case g1qy1 => first | (intro w hSw; (try dsimp only at hSw); go_simp; done) | (intro w hSw; (try dsimp only at hSw); go_simp; with_reducible rfl)
        case' g1qr1 => try simp only [Act.put, List.setIfInBounds_toArray, List.set_cons_zero, List.set_cons_succ]
        refine wpAnyH_takeL (i := 2) (v := ?g1qv2) rfl (by kernel_rfl) (by kernel_rfl) (by kernel_rfl) (fun _ _ _ h => h) (Or.inl ⟨by rfl, ?g1qy2⟩) (by assumption) ?g1qr2
        case g1qy2 => first | (intro w hSw; (try dsimp only at hSw); go_simp; done) | (intro w hSw; (try dsimp only at hSw); go_simp; with_reducible rfl)
        case' g1qr2 => try simp only [Act.put, List.setIfInBounds_toArray, List.set_cons_zero, List.set_cons_succ]
        refine wpAnyH_takeL (i := 3) (v := ?g1qv3) rfl (by kernel_rfl) (by kernel_rfl) (by kernel_rfl) (fun _ _ _ h => h) (Or.inl ⟨by rfl, ?g1qy3⟩) (by assumption) ?g1qr3
        case g1qy3 => first | (intro w hSw; (try dsimp only at hSw); go_simp; done) | (intro w hSw; (try dsimp only at hSw); go_simp; with_reducible rfl)
        case' g1qr3 => try simp only [Act.put, List.setIfInBounds_toArray, List.set_cons_zero, List.set_cons_succ]
        refine wpAnyH_takeL (i := 4) (v := ?g1qv4) rfl (by kernel_rfl) (by kernel_rfl) (by kernel_rfl) (fun _ _ _ h => h) (Or.inl ⟨by rfl, ?g1qy4⟩) (by assumption) ?g1qr4
        case g1qy4 => first | (intro w hSw; (try dsimp only at hSw); go_simp; done) | (intro w hSw; (try dsimp only at hSw); go_simp; with_reducible rfl)
        case' g1qr4 => try simp only [Act.put, List.setIfInBounds_toArray, List.set_cons_zero, List.set_cons_succ]
        refine wpAnyH_ready (rs := [5]) (by kernel_rfl) (by simp) ?_
        refine AllReadyH.consL rfl (fun K hK => ?_) AllReadyH.nil
        go_simp
        go_at_call 34
        refine (HHX.out _ hT.out.ext.drew).mono ?_
        rintro e w5 ⟨rfl, hx5⟩
        have HX5 := hid hx5.drew_left
        clear hx5
        refine hK.out _ _ ⟨HX5.out.cell m0, HX5.out.cell m1, HX5.out.cell m2, HX5.out.cell m3, HX5.out.cell xk⟩ (fun hSg1q1 => ?_)
        clear hK K
        try simp only [Act.put, List.setIfInBounds_toArray, List.set_cons_zero, List.set_cons_succ]
        refine wpAnyH_done (by kernel_rfl) ?_ _
        have HT5 := hid (hT.out.more HX5.out)
        have HK5 := hid (hK.out.more HX5.out)
        have HKO5 := hid (hKO.out.more hT.out.vle HX5.out)
        have xk := HX5.out.cell xk
        clear m0 m1 m2 m3
        cases f with
        | false =>
          go_wp2
          first
            | go_roundw
            | refine ⟨?rel, ?measure⟩
          case rel =>
            refine ⟨k + 1, A2, c2, M, by omega, by go_num, HT5, HK5, HKO5, hid ?_⟩
            rw [take_snoc' HX.out, List.filter_append, ← hM.out]
            simp [HFF.out]
          case measure => simp [intOf]; omega
        | true =>
          have HT6 := hid (HT5.out.more (Ext.refl w5).drew)
          have HK6 := hid (HK5.out.more (Ext.refl w5).drew)
          have HKO6 := hid (HKO5.out.more HT5.out.vle (Ext.refl w5).drew)
          have x3 := HT5.out.bx.c3
          rw [show w.heap.size + 2 = w.heap.size + 1 + 1 from rfl] at x3
          go_wp2_with fail
          refine wp_region_split 9 (by kernel_rfl) rfl rfl (by kernel_rfl) (fun w' => w'.cell? ⟨w.heap.size + 1 + 1, 3, none⟩ = some (.slice A2 M.length c2) ∧ w'.cell? ⟨bz, oz + k, none⟩ = some (.int .u32 x)) ⟨x3, xk⟩ (fun hSg2q0 => ?_)
          refine wpAnyH_takeL (i := 0) (v := ?g2qv0) rfl (by kernel_rfl) (by kernel_rfl) (by kernel_rfl) (fun _ _ _ h => h) (Or.inl ⟨by rfl, ?g2qy0⟩) (by assumption) ?g2qr0
          case g2qy0 => first | (intro w hSw; (try dsimp only at hSw); go_simp; done) | (intro w hSw; (try dsimp only at hSw); go_simp; with_reducible rfl)
          case' g2qr0 => try simp only [Act.put, List.setIfInBounds_toArray, List.set_cons_zero, List.set_cons_succ]
          refine wpAnyH_takeL (i := 1) (v := ?g2qv1) rfl (by kernel_rfl) (by kernel_rfl) (by kernel_rfl) (fun _ _ _ h => h) (Or.inl ⟨by rfl, ?g2qy1⟩) (by assumption) ?g2qr1
          case g2qy1 => first | (intro w hSw; (try dsimp only at hSw); go_simp; done) | (intro w hSw; (try dsimp only at hSw); go_simp; with_reducible rfl)
          case' g2qr1 => try simp only [Act.put, List.setIfInBounds_toArray, List.set_cons_zero, List.set_cons_succ]
          refine wpAnyH_takeL (i := 2) (v := ?g2qv2) rfl (by kernel_rfl) (by kernel_rfl) (by kernel_rfl) (fun _ _ _ h => h) (Or.inl ⟨by rfl, ?g2qy2⟩) (by assumption) ?g2qr2
          case g2qy2 => first | (intro w hSw; (try dsimp only at hSw); go_simp; done) | (intro w hSw; (try dsimp only at hSw); go_simp; with_reducible rfl)
          case' g2qr2 => try simp only [Act.put, List.setIfInBounds_toArray, List.set_cons_zero, List.set_cons_succ]
          refine wpAnyH_takeL (i := 3) (v := ?g2qv3) rfl (by kernel_rfl) (by kernel_rfl) (by kernel_rfl) (fun _ _ _ h => h) (Or.inl ⟨by rfl, ?g2qy3⟩) (by assumption) ?g2qr3
          case g2qy3 => first | (intro w hSw; (try dsimp only at hSw); go_simp; done) | (intro w hSw; (try dsimp only at hSw); go_simp; with_reducible rfl)
          case' g2qr3 => try simp only [Act.put, List.setIfInBounds_toArray, List.set_cons_zero, List.set_cons_succ]
          refine wpAnyH_takeL (i := 4) (v := ?g2qv4) rfl (by kernel_rfl) (by kernel_rfl) (by kernel_rfl) (fun _ _ _ h => h) (Or.inl ⟨by rfl, ?g2qy4⟩) (by assumption) ?g2qr4
          case g2qy4 => first | (intro w hSw; (try dsimp only at hSw); go_simp; done) | (intro w hSw; (try dsimp only at hSw); go_simp; with_reducible rfl)
          case' g2qr4 => try simp only [Act.put, List.setIfInBounds_toArray, List.set_cons_zero, List.set_cons_succ]
          refine wpAnyH_takeL (i := 5) (v := ?g2qv5) rfl (by kernel_rfl) (by kernel_rfl) (by kernel_rfl) (fun _ _ _ h => h) (Or.inl ⟨by rfl, ?g2qy5⟩) (by assumption) ?g2qr5
          case g2qy5 => first | (intro w hSw; (try dsimp only at hSw); go_simp; done) | (intro w hSw; (try dsimp only at hSw); go_simp; with_reducible rfl)
          case' g2qr5 => try simp only [Act.put, List.setIfInBounds_toArray, List.set_cons_zero, List.set_cons_succ]
          refine wpAnyH_ready (rs := [6]) (by kernel_rfl) (by simp) ?_
          refine AllReadyH.consL rfl (fun K hK => ?_) AllReadyH.nil
          go_simp
          refine hK.out _ _ ⟨((Ext.refl w5).drew.alloc _).cell x3, ((Ext.refl w5).drew.alloc _).cell xk⟩ (fun hSg2q1 => ?_)
          clear hK K
          try simp only [Act.put, List.setIfInBounds_toArray, List.set_cons_zero, List.set_cons_succ]
          refine wpAnyH_ready (rs := [7]) (by kernel_rfl) (by simp) ?_
          refine AllReadyH.consL rfl (fun K hK => ?_) AllReadyH.nil
          refine step_app1 rfl (.tmp 107) (.tmp 112) 23 rfl V.heap.size 39 k0 _ 1 4 Try.underlying23 HKF.out HK0.out HK1.out HK2.out rfl u32R rfl (.slice A2 M.length c2) M rfl HT6.out.own2 x rfl ⟨rfl, hx32⟩ (by omega) (by omega) (by exact HT6.out.vle) ?_
          intro A9 c9 w9 hown9 hg9
          have xb := (HT6.out.bx.ext ((Ext.refl _).alloc _)).grown hg9 (fun e => by have := (HT6.out.own2.block _ e.symm).1; have := HT6.out.lt; omega)
          have x39 := xb.c3
          have xf9 := xb.fz 3
          rw [show w.heap.size + 2 = w.heap.size + 1 + 1 from rfl] at x39 xf9
          have xk9 := (World.cell?_of_block (hg9.block bz (by have := HVC.out; have := HT6.out.vle; simp at *; omega) (fun e => by have := (HT6.out.own2.block _ e.symm).1; have := HVC.out; simp at *; omega))).trans (((Ext.refl w5).drew.alloc _).cell xk)
          have HO9 := hid hown9
          have HG9 := hid hg9
          clear hown9 hg9 xb
          refine hK.out _ _ ⟨x39, xk9⟩ (fun hSg2q2 => ?_)
          clear hK K
          try simp only [Act.put, List.setIfInBounds_toArray, List.set_cons_zero, List.set_cons_succ]
          refine wpAnyH_takeL (i := 8) (v := ?g2qv8) rfl (by kernel_rfl) (by kernel_rfl) (by kernel_rfl) (fun _ _ _ h => h) (Or.inl ⟨by rfl, ?g2qy8⟩) (by assumption) ?g2qr8
          case g2qy8 => first | (intro w hSw; (try dsimp only at hSw); go_simp; done) | (intro w hSw; (try dsimp only at hSw); go_simp; with_reducible rfl)
          case' g2qr8 => try simp only [Act.put, List.setIfInBounds_toArray, List.set_cons_zero, List.set_cons_succ]
          refine wpAnyH_done (by kernel_rfl) ?_ _
          change wpList _ _ _ _ _ _
          go_wp2
          first
            | go_roundw
            | refine ⟨?rel, ?measure⟩
          case rel =>
            refine ⟨k + 1, A9, c9, M ++ [x], by omega, by go_num, by simpa using hid (HT6.out.addS HO9.out HG9.out), hid (HK6.out.addR HT6.out HG9.out), hid (HKO6.out.addR HT6.out HG9.out), hid ?_⟩
            rw [take_snoc' HX.out, List.filter_append, ← hM.out]
            simp [HFF.out]
          case measure => simp [intOf]; omega
      · obtain rfl : N = k := by omega
        have hMe : M = R.filter (hasIn ins) := by rw [hM.out, List.take_of_length_le (by have := HN.out; omega)]
        have HME := hid hMe
        have hML : M.length ≤ 1000 := by
          rw [hMe]
          exact Nat.le_trans (List.length_filter_le _ _) (by have := HN.out; omega)
        have HB5 := hid (show Box9 wr sz i from HB2.out.same (hKO.out _ HBL.out HBN.out))
        obtain ⟨c0, c1', c2', c3', c4', c5', c6', c7', c8'⟩ := HB5.out
        clear hMe
        obtain ⟨es, hes⟩ : ∃ es, endsI i = es := ⟨_, rfl⟩
        obtain ⟨st, hst⟩ : ∃ st, stopsI i = st := ⟨_, rfl⟩
        have HIER := hid (HIE.out wr)
        rw [hst] at HIER
        have HS2' : Hid (st = (decide (i.op = 20) || es)) := hid (by rw [← hst, ← hes]; rfl)
        have HE2' : Hid (es = (decide (i.op = 20) && decide (i.cc = 0) || (st && !decide (i.op = 20)))) := hid (by
          rw [← hst, ← hes]
          unfold stopsI endsI
          by_cases h : i.op = 20 <;> simp [h])
        have HES := hid hes
        obtain ⟨nx, hnx⟩ : ∃ nx, nextI i = nx := ⟨_, rfl⟩
        have hnx32 := nextI_lt i
        rw [hnx] at hnx32
        have HNX := hid hnx
        obtain ⟨f, hf⟩ : ∃ f, hasIn ins nx = f := ⟨_, rfl⟩
        have HFF := hid hf
        have HHX := hid (fun W h => HHA.out W h nx)
        rw [hf] at HHX
        have hT := hT
        rw [hnx] at hT
        have HSU : Hid (succL ins tabs at_ i = M ++ (if es then [] else if f then [nx] else [])) := hid (by
          unfold succL
          rw [HR.out, hes, hnx, List.filter_append, ← HME.out]
          congr 1
          cases es with
          | true => rfl
          | false =>
            show List.filter (hasIn ins) [nx] = _
            cases f with
            | true => simp [hf]
            | false => simp [hf])
        clear hes hst hf hnx
        go_upto_region 19 with fail
        go_cut [20] from 115 to 126 (fun s20 wx => s20 = .bool es ∧ Hid (Ext wr wx))
        case first =>
          go_wp2_with fail
          refine (HIER.out).mono ?_
          rintro e6 w6 ⟨rfl, hx6⟩
          have c2' := hx6.cell c2'
          have c5' := hx6.cell c5'
          have HX6 := hid hx6
          clear hx6 c0 c1' c3' c4' c6' c7' c8'
          cases st with
          | false =>
            have he : es = false := by
              have := HS2'.out
              cases es with
              | false => rfl
              | true => simp at this
            subst he
            go_wp2
            go_meet
            exact ⟨rfl, HX6⟩
          | true =>
            by_cases h20 : i.op = 20
            · have n20 : (i.op != 20) = false := by simp [h20]
              have H20 := hid h20
              clear h20
              by_cases hc : i.cc = 0
              · have nc : (i.cc == 0) = true := by simp [hc]
                have he : es = true := by rw [HE2'.out, H20.out, hc]; rfl
                subst he
                clear hc
                go_wp2
                go_meet
                exact ⟨rfl, HX6⟩
              · have nc : (i.cc == 0) = false := by simp [hc]
                have he : es = false := by rw [HE2'.out, H20.out]; simp [hc]
                subst he
                clear hc
                go_wp2
                go_meet
                exact ⟨rfl, HX6⟩
            · have n20 : (i.op != 20) = true := by simp [h20]
              have he : es = true := by rw [HE2'.out]; simp [h20]
              subst he
              clear h20
              go_wp2
              go_meet
              exact ⟨rfl, HX6⟩
        case rest =>
          obtain ⟨rfl, hx6⟩ := hcut
          have HT6 := hid (hT.out.more hx6.out)
          clear c0 c1' c2' c3' c4' c5' c6' c7' c8'
          cases es with
          | true =>
            have hme : Hid (M = succL ins tabs at_ i) := hid (by rw [HSU.out]; simp)
            obtain ⟨x0, x1, x2, x3, x4, xf⟩ := HT6.out.bx
            obtain ⟨r0, r1, r2, r3, r4, rf⟩ := HT6.out.res
            rw [show w.heap.size + 2 = w.heap.size + 1 + 1 from rfl] at x0 x1 x2 x3 x4 xf
            go_wp2
            obtain ⟨WF, hWF⟩ : ∃ WF, ((((wc.setCell ⟨w.heap.size + 1, 0, none⟩ (.int .u32 a0)).setCell ⟨w.heap.size + 1, 1, none⟩ (.int .u32 nx)).setCell ⟨w.heap.size + 1, 2, none⟩ (.slice (some ⟨bI, offI, none⟩) (m + 1) c1)).setCell ⟨w.heap.size + 1, 3, none⟩ (.slice A2 M.length c2)).setCell ⟨w.heap.size + 1, 4, none⟩ (.slice A3 cl.length c3) = WF := ⟨_, rfl⟩
            obtain ⟨d1, d2, d3, d4⟩ := HT6.out.done _ _ _ _ _ hWF
            refine bodyPost_ret (v := .agg #[.int .u32 a0, .int .u32 nx, .slice (some ⟨bI, offI, none⟩) (m + 1) c1, .slice A2 M.length c2, .slice A3 cl.length c3]) (by simp [results, Try.results31, go_sem, World.cell?_setCell_same, World.cell?_setCell_other, r0, r1, r2, r3, r4]) rfl ?_
            rw [hWF, bk_eq hP.out.1, HNX.out, ← hme.out]
            refine ⟨d1, _, _, _, rfl, d2, d3, ?_, ha0, hnx32⟩
            rw [← hP.out.2]
            exact d4
          | false =>
            have m0 := HT6.out.m0
            have m1 := HT6.out.m1
            have m2 := HT6.out.m2
            have m3 := HT6.out.m3
            have x1 := HT6.out.bx.c1
            rw [show w.heap.size + 2 = w.heap.size + 1 + 1 from rfl] at x1
            go_wp2_with fail
            refine (HHX.out _ HT6.out.ext).mono ?_
            rintro e7 w7 ⟨rfl, hx7⟩
            have HT7 := hid (HT6.out.more hx7)
            clear m0 m1 m2 m3 x1 hx7
            cases f with
            | false =>
              have hme : Hid (M = succL ins tabs at_ i) := hid (by rw [HSU.out]; simp)
              obtain ⟨x0, x1, x2, x3, x4, xf⟩ := HT7.out.bx
              obtain ⟨r0, r1, r2, r3, r4, rf⟩ := HT7.out.res
              rw [show w.heap.size + 2 = w.heap.size + 1 + 1 from rfl] at x0 x1 x2 x3 x4 xf
              go_wp2
              obtain ⟨WF, hWF⟩ : ∃ WF, ((((w7.setCell ⟨w.heap.size + 1, 0, none⟩ (.int .u32 a0)).setCell ⟨w.heap.size + 1, 1, none⟩ (.int .u32 nx)).setCell ⟨w.heap.size + 1, 2, none⟩ (.slice (some ⟨bI, offI, none⟩) (m + 1) c1)).setCell ⟨w.heap.size + 1, 3, none⟩ (.slice A2 M.length c2)).setCell ⟨w.heap.size + 1, 4, none⟩ (.slice A3 cl.length c3) = WF := ⟨_, rfl⟩
              obtain ⟨d1, d2, d3, d4⟩ := HT7.out.done _ _ _ _ _ hWF
              refine bodyPost_ret (v := .agg #[.int .u32 a0, .int .u32 nx, .slice (some ⟨bI, offI, none⟩) (m + 1) c1, .slice A2 M.length c2, .slice A3 cl.length c3]) (by simp [results, Try.results31, go_sem, World.cell?_setCell_same, World.cell?_setCell_other, r0, r1, r2, r3, r4]) rfl ?_
              rw [hWF, bk_eq hP.out.1, HNX.out, ← hme.out]
              refine ⟨d1, _, _, _, rfl, d2, d3, ?_, ha0, hnx32⟩
              rw [← hP.out.2]
              exact d4
            | true =>
              have x1 := HT7.out.bx.c1
              have x3 := HT7.out.bx.c3
              rw [show w.heap.size + 2 = w.heap.size + 1 + 1 from rfl] at x1 x3
              go_upto_region 22 with (first
                | (at_builtin; refine wpList_app1s rfl (.tmp 136) (.tmp 139) 23 rfl V.heap.size 39 k0 _ 1 4 Try.underlying23 HKF.out HK0.out HK1.out HK2.out rfl u32R rfl (.slice A2 M.length c2) M rfl HT7.out.own2 w7.heap.size rfl nx rfl ⟨rfl, hnx32⟩ (by omega) (by omega) HT7.out.vle ?_; intro A9 c9 w9 hown9 hg9; have HO9 := hid hown9; have HG9 := hid hg9; clear hown9 hg9; have xb := (HT7.out.bx.ext ((Ext.refl w7).alloc _)).grown HG9.out (fun e => by have := (HT7.out.own2.block _ e.symm).1; have := HT7.out.lt; omega); have x3 := xb.c3; have xf := xb.fz 3; rw [show w.heap.size + 2 = w.heap.size + 1 + 1 from rfl] at x3 xf; clear xb)
                | fail)
              have HT8 := hid (HT7.out.addS HO9.out HG9.out)
              obtain ⟨W8, hW8⟩ : ∃ W8, w9.setCell ⟨w.heap.size + 1 + 1, 3, none⟩ (.slice A9 (M.length + 1) c9) = W8 := ⟨_, rfl⟩
              have HT9 : Hid (RkT w V.heap.size W8 (.slice A n c) (.slice E ne ce) (.slice U nu cu) (.slice B nb cb) a0 nx (.slice (some ⟨bI, offI, none⟩) (m + 1) c1) (.slice A9 (M.length + 1) c9) (.slice A3 cl.length c3) (acc ++ [i]) cl (M ++ [nx])) := hid (by rw [← hW8]; exact HT8.out)
              rw [hW8]
              clear hW8 HT8 x1 x3 xf
              have hme : Hid (M ++ [nx] = succL ins tabs at_ i) := hid (by rw [HSU.out]; simp)
              obtain ⟨x0, x1, x2, x3, x4, xf⟩ := HT9.out.bx
              obtain ⟨r0, r1, r2, r3, r4, rf⟩ := HT9.out.res
              rw [show w.heap.size + 2 = w.heap.size + 1 + 1 from rfl] at x0 x1 x2 x3 x4 xf
              go_wp2
              obtain ⟨WF, hWF⟩ : ∃ WF, ((((W8.setCell ⟨w.heap.size + 1, 0, none⟩ (.int .u32 a0)).setCell ⟨w.heap.size + 1, 1, none⟩ (.int .u32 nx)).setCell ⟨w.heap.size + 1, 2, none⟩ (.slice (some ⟨bI, offI, none⟩) (m + 1) c1)).setCell ⟨w.heap.size + 1, 3, none⟩ (.slice A9 (M.length + 1) c9)).setCell ⟨w.heap.size + 1, 4, none⟩ (.slice A3 cl.length c3) = WF := ⟨_, rfl⟩
              obtain ⟨d1, d2, d3, d4⟩ := HT9.out.done _ _ _ _ _ hWF
              refine bodyPost_ret (v := .agg #[.int .u32 a0, .int .u32 nx, .slice (some ⟨bI, offI, none⟩) (m + 1) c1, .slice A9 (M.length + 1) c9, .slice A3 cl.length c3]) (by simp [results, Try.results31, go_sem, World.cell?_setCell_same, World.cell?_setCell_other, r0, r1, r2, r3, r4]) rfl ?_
              rw [hWF, bk_eq hP.out.1, HNX.out, ← hme.out]
              refine ⟨d1, _, _, _, rfl, d2, d3, ?_, ha0, hnx32⟩
              rw [← hP.out.2]
              exact d4
end Go.Proofs.Ytolbnhkdpbdhhaa

namespace Go.Proofs.Ytolbnhkdpbdhhaa
open Go.RowKit Go.Deco
set_option linter.unusedSimpArgs false
set_option linter.unusedVariables false

theorem info_ba17 : (Try.prog.info? 42).map (fun i => (i.zero, i.size, i.bytes)) = some (some (.agg #[.int .u32 0, .int .u32 0, .slice none 0 0, .slice none 0 0, .slice none 0 0]), 5, 80) := by kernel_rfl
/-- A block's rows that lie between two blocks of the heap. -/
structure RkR (lo hi : Nat) (v1 v2 v3 : Value) (B : Bs) (w : World) : Prop where
  s1 : Sl insR w (fun b => lo ≤ b ∧ b < hi) v1 B.ins
  s2 : Sl u32R w (fun b => lo ≤ b ∧ b < hi) v2 B.succ
  s3 : Sl u32sR w (fun b => lo ≤ b ∧ b < hi) v3 B.calls
theorem RkR.ext {lo hi : Nat} {v1 v2 v3 : Value} {B : Bs} {w w' : World} (h : RkR lo hi v1 v2 v3 B w) (he : Ext w w') : RkR lo hi v1 v2 v3 B w' := ⟨h.s1.ext he, h.s2.ext he, h.s3.ext he⟩
theorem RkR.same {lo hi : Nat} {v1 v2 v3 : Value} {B : Bs} {w w' : World} (h : RkR lo hi v1 v2 v3 B w) (hk : ∀ b, lo ≤ b ∧ b < hi → w'.heap[b]? = w.heap[b]?) : RkR lo hi v1 v2 v3 B w' := ⟨h.s1.keep fun b hb _ => hk b hb, h.s2.keep fun b hb _ => hk b hb, h.s3.keep fun b hb _ => hk b hb⟩
theorem RkR.new {lo : Nat} {v1 v2 v3 : Value} {B : Bs} {w : World} (h1 : Sl insR w (fun b => lo ≤ b) v1 B.ins) (h2 : Sl u32R w (fun b => lo ≤ b) v2 B.succ) (h3 : Sl u32sR w (fun b => lo ≤ b) v3 B.calls) : RkR lo w.heap.size v1 v2 v3 B w :=
  ⟨h1.mono fun b hb hi => ⟨hb, hi.lt⟩, h2.mono fun b hb hi => ⟨hb, hi.lt⟩, h3.mono fun b hb hi => ⟨hb, hi.lt⟩⟩
/-- A box for a block, not yet written. -/
structure ZBk (lo a : Nat) (w : World) : Prop where
  bx : Box5 w a (.int .u32 0) (.int .u32 0) (.slice none 0 0) (.slice none 0 0) (.slice none 0 0)
  ge : lo ≤ a
theorem ZBk.ext {lo a : Nat} {w w' : World} (h : ZBk lo a w) (he : Ext w w') : ZBk lo a w' := ⟨h.bx.ext he, h.ge⟩
def ZGe (n : Nat) (w : World) : Prop := n ≤ w.heap.size
theorem ZGe.ext {n : Nat} {w w' : World} (h : ZGe n w) (he : Ext w w') : ZGe n w' := Nat.le_trans h he.size
theorem extAllocK {a w : World} (h : Ext a w) : ∃ wA sz, w.alloc (.cells #[.int .u32 0, .int .u32 0, .slice none 0 0, .slice none 0 0, .slice none 0 0] 42) = wA ∧ w.heap.size = sz ∧ Ext w wA ∧ a.heap.size ≤ sz ∧ Box5 wA sz (.int .u32 0) (.int .u32 0) (.slice none 0 0) (.slice none 0 0) (.slice none 0 0) :=
  ⟨_, _, rfl, rfl, (Ext.refl w).alloc _, h.size, ⟨by simp [go_sem], by simp [go_sem], by simp [go_sem], by simp [go_sem], by simp [go_sem], fun i => by simp [go_sem]⟩⟩
theorem ext5c {w w' : World} {p0 p1 p2 p3 p4 : Addr} {u0 u1 u2 u3 u4 : Value} (h : w.cell? p0 = some u0 ∧ w.cell? p1 = some u1 ∧ w.cell? p2 = some u2 ∧ w.cell? p3 = some u3 ∧ w.cell? p4 = some u4) (he : Ext w w') :
    w'.cell? p0 = some u0 ∧ w'.cell? p1 = some u1 ∧ w'.cell? p2 = some u2 ∧ w'.cell? p3 = some u3 ∧ w'.cell? p4 = some u4 := ⟨he.cell h.1, he.cell h.2.1, he.cell h.2.2.1, he.cell h.2.2.2.1, he.cell h.2.2.2.2⟩
theorem rk_lo {a w : World} (h : Ext a w) : ∃ lo, lo = w.heap.size ∧ a.heap.size ≤ lo := ⟨_, rfl, h.size⟩
theorem indI_L (i : In) : indI i = indL i := rfl
theorem set5_heap {w : World} {a b : Nat} {u0 u1 u2 u3 u4 : Value} (h : b ≠ a) : (((((w.setCell ⟨a, 0, none⟩ u0).setCell ⟨a, 1, none⟩ u1).setCell ⟨a, 2, none⟩ u2).setCell ⟨a, 3, none⟩ u3).setCell ⟨a, 4, none⟩ u4).heap[b]? = w.heap[b]? :=
  (Below.heap_setCell _ _ _ b h).trans ((Below.heap_setCell _ _ _ b h).trans ((Below.heap_setCell _ _ _ b h).trans ((Below.heap_setCell _ _ _ b h).trans (Below.heap_setCell _ _ _ b h))))

set_option maxRecDepth 100000 in
set_option maxHeartbeats 8000000 in
theorem rblocks_any (w : World) (A E U B T Q : Option Addr) (n c ne ce nu cu nb cb nt ct nq cq : Nat) (ins : List In) (entries : List Nat) (tabs : List (List Nat)) (at_ : List Nat) (hi : Sl insR w All (.slice A n c) ins) (he : Sl u32R w All (.slice E ne ce) entries)
    (ht : Sl u32sR w All (.slice T nt ct) tabs) (hq : Sl u32R w All (.slice Q nq cq) at_) (hn : n ≤ 600) (htl : ∀ t ∈ tabs, t.length ≤ 1000) :
    Calls Try.prog 12 #[.agg #[.slice A n c, .slice E ne ce, .slice U nu cu, .slice B nb cb], .slice T nt ct, .slice Q nq cq] w (BlocksPost w (blocksR ins entries tabs at_)) := by
  obtain ⟨j0, hjf, hy0, hy1, hy2⟩ := info_parts info_ba17
  have HJF := hid hjf
  have HY0 := hid hy0
  have HY1 := hid hy1
  have HY2 := hid hy2
  clear hjf hy0 hy1 hy2
  obtain ⟨W0, hW0⟩ : ∃ W0, w.alloc (.cells #[.slice A n c, .slice E ne ce, .slice U nu cu, .slice B nb cb] 36) = W0 := ⟨_, rfl⟩
  have hE : Ext w W0 := by rw [← hW0]; exact (Ext.refl w).alloc _
  have q0 : W0.cell? ⟨w.heap.size, 0, none⟩ = some (.slice A n c) := by rw [← hW0]; simp [go_sem]
  have q1 : W0.cell? ⟨w.heap.size, 1, none⟩ = some (.slice E ne ce) := by rw [← hW0]; simp [go_sem]
  have q2 : W0.cell? ⟨w.heap.size, 2, none⟩ = some (.slice U nu cu) := by rw [← hW0]; simp [go_sem]
  have q3 : W0.cell? ⟨w.heap.size, 3, none⟩ = some (.slice B nb cb) := by rw [← hW0]; simp [go_sem]
  have HRL := hid (fun W (h : Ext w W) => rleaders_any W A E U B T Q n c ne ce nu cu nb cb nt ct nq cq ins entries tabs at_ (hi.ext h) (he.ext h) (ht.ext h) (hq.ext h) (Nat.le_trans hn (by omega)))
  have HE := hid hE
  obtain ⟨R, hR⟩ : ∃ R, leadL ins entries tabs at_ = R := ⟨_, rfl⟩
  rw [hR] at HRL
  have HRR : Hid (blocksR ins entries tabs at_ = (if 256 < R.length then ([], 6) else if (R.map (blockBs ins R tabs at_)).any (badB tabs at_) then ([], 19) else (R.map (blockBs ins R tabs at_), 0))) := hid (by rw [← hR]; rfl)
  have HRF : Hid (∀ x ∈ R, ∃ i, firstIn ins x = some i) := hid (by rw [← hR]; exact fun x hx => leadL_has hx)
  have HBK := hid (fun W (h : Ext w W) (L : Option Addr) (nl cl' : Nat) (hl : Sl u32R W All (.slice L nl cl') R) (a0 : Nat) (ha0 : a0 < 4294967296) (hi0 : ∃ i, firstIn ins a0 = some i) =>
    rblock_any W A E U B T Q L n c ne ce nu cu nb cb nt ct nq cq nl cl' a0 ins R tabs at_ (hi.ext h) (ht.ext h) (hq.ext h) hl htl ha0 hi0)
  have HTA := hid (fun W (h : Ext w W) a => rtable_any All W T Q nt ct nq cq tabs at_ (ht.ext h) (hq.ext h) a)
  obtain ⟨BB, hBB⟩ : ∃ BB, blockBs ins R tabs at_ = BB := ⟨_, rfl⟩
  have HBB := hid hBB
  rw [hBB] at HRR HBK
  obtain ⟨RES, hRES⟩ : ∃ RES, blocksR ins entries tabs at_ = RES := ⟨_, rfl⟩
  rw [hRES] at HRR ⊢
  clear hE hi he ht hq hR htl hBB hRES hn
  go_enter Try.func12, Try.ntmps12
  go_wp2_with fail
  refine (HRL.out W0 HE.out).mono ?_
  rintro e w2 ⟨hx2, AL, cL, rfl, hsL⟩
  have HX2 := hid (HE.out.trans hx2)
  have HSL := hid hsL
  have Q0 := hid (hx2.cell q0)
  have Q1 := hid (hx2.cell q1)
  have Q2 := hid (hx2.cell q2)
  have Q3 := hid (hx2.cell q3)
  obtain ⟨N, hN⟩ : ∃ N, R.length = N := ⟨_, rfl⟩
  rw [hN] at HSL ⊢
  have HN := hid hN
  have HCL := hid HSL.out.cap
  clear hx2 hsL hN q0 q1 q2 q3 hW0
  by_cases hbig : 256 < N
  · have hr : RES = ([], 6) := HRR.out.trans (if_pos (by rw [HN.out]; exact hbig))
    go_wp2
    go_ret2
    rw [hr]
    exact ⟨HX2.out, none, 0, rfl, Sl.nil⟩
  have hr : RES = (if (R.map BB).any (badB tabs at_) then ([], 19) else (R.map BB, 0)) := HRR.out.trans (if_neg (by rw [HN.out]; exact hbig))
  have HR := hid hr
  obtain ⟨V, hV⟩ : ∃ V, V = w2 := ⟨_, rfl⟩
  subst hV
  clear hr
  go_wp2
  go_loopw [9, 10] (fun v i wr => ∃ (k : Nat) (A' : Option Addr) (c' : Nat) (M : List Bs), k ≤ N ∧ i = .int .i64 k ∧ v = .slice A' M.length c' ∧ Hid (OwnS bsR wr V.heap.size 42 (fun b => V.heap.size ≤ b) (.slice A' M.length c') M) ∧ Hid (Ext V wr) ∧ Hid (M = (R.take k).map BB) ∧ Hid (∀ b ∈ M, badB tabs at_ b = false)) (fun _ i _ => N - (intOf i).toNat)
  case atStart => exact ⟨0, none, 0, [], by omega, rfl, rfl, hid OwnS.nil, hid (Ext.refl _), hid (by simp), hid (by simp)⟩
  case round =>
    obtain ⟨k, A', c', M, hk, rfl, rfl, HO, HX, HM, HG⟩ := hrel
    by_cases h1 : k < N
    · obtain ⟨x, hx⟩ : ∃ x, R[k]? = some x := ⟨_, List.getElem?_eq_getElem (by have := HN.out; omega)⟩
      obtain ⟨b, off, rfl, cx, hx32⟩ := Sl.num_at (HSL.out.ext HX.out) hx
      have hif := HRF.out x (List.mem_of_getElem? hx)
      have hML : M.length ≤ k := by rw [HM.out]; simp; omega
      have q0 := HX.out.cell Q0.out
      have q1 := HX.out.cell Q1.out
      have q2 := HX.out.cell Q2.out
      have q3 := HX.out.cell Q3.out
      have HXW := hid (HX2.out.trans HX.out)
      have HB := hid (fun W (h : Ext wr W) => HBK.out W (HXW.out.trans h) _ N cL ((HSL.out.ext HX.out).ext h) x hx32 hif)
      obtain ⟨acc, z, hz, hzi⟩ := blkFrom_last (ld := R) hx32 hif
      obtain ⟨su, hsu⟩ : ∃ su, succL ins tabs at_ z = su := ⟨_, rfl⟩
      obtain ⟨ca, hca⟩ : ∃ ca, callsL tabs at_ (acc ++ [z]) = ca := ⟨_, rfl⟩
      obtain ⟨nz, hnz⟩ : ∃ nz, nextI z = nz := ⟨_, rfl⟩
      have hnz32 := nextI_lt z
      rw [hnz] at hnz32
      have hbq : BB x = ⟨x, nz, acc ++ [z], su, ca⟩ := by rw [← HBB.out, ← hsu, ← hca, ← hnz]; exact bk_eq hz
      rw [hbq] at HB
      have HBQ := hid hbq
      have HKX := hid hx
      obtain ⟨m, hm⟩ : ∃ m, acc.length = m := ⟨_, rfl⟩
      have hm1 : (acc ++ [z]).length = m + 1 := by rw [← hm]; simp
      have HMM := hid hm
      have HM1 := hid hm1
      obtain ⟨lu, hlu⟩ : ∃ lu, su.length = lu := ⟨_, rfl⟩
      have HLU := hid hlu
      obtain ⟨lc, hlc⟩ : ∃ lc, ca.length = lc := ⟨_, rfl⟩
      have HLC := hid hlc
      have i1 : (k : Int) < (N : Int) := by omega
      have i0 : (0 : Int) ≤ (k : Int) := by omega
      have HCX := hid (And.intro q0 (And.intro q1 (And.intro q2 (And.intro q3 cx))))
      clear hbq hsu hca hnz hx hz hif hzi hm hm1 hlu hlc
      go_wp2_with fail
      have HXg3q_0 := hid ((Ext.refl wr).drew)
      refine wp_region_held_drew (S := (fun w' => w'.cell? ⟨w.heap.size, 0, none⟩ = some (.slice A n c) ∧ w'.cell? ⟨w.heap.size, 1, none⟩ = some (.slice E ne ce) ∧ w'.cell? ⟨w.heap.size, 2, none⟩ = some (.slice U nu cu) ∧ w'.cell? ⟨w.heap.size, 3, none⟩ = some (.slice B nb cb) ∧ w'.cell? ⟨b, off + k, none⟩ = some (.int .u32 x))) (by kernel_rfl) ⟨q0, q1, q2, q3, cx⟩ (fun hSg3q0 => ?_)
      refine wpAnyH_takeL (i := 0) (v := ?g3qv0x1) rfl (by kernel_rfl) (by kernel_rfl) (by kernel_rfl) (fun _ _ _ h => h) (Or.inl ⟨by rfl, ?g3qy0x1⟩) (by assumption) ?g3qr0x1
      case g3qy0x1 => first | (intro w hSw; (try dsimp only at hSw); go_simp; done) | (intro w hSw; (try dsimp only at hSw); go_simp; with_reducible rfl)
      case' g3qr0x1 => try simp only [Act.put, List.setIfInBounds_toArray, List.set_cons_zero, List.set_cons_succ]
      refine wpAnyH_takeL (i := 1) (v := ?g3qv1x2) rfl (by kernel_rfl) (by kernel_rfl) (by kernel_rfl) (fun _ _ _ h => h) (Or.inl ⟨by rfl, ?g3qy1x2⟩) (by assumption) ?g3qr1x2
      case g3qy1x2 => first | (intro w hSw; (try dsimp only at hSw); go_simp; done) | (intro w hSw; (try dsimp only at hSw); go_simp; with_reducible rfl)
      case' g3qr1x2 => try simp only [Act.put, List.setIfInBounds_toArray, List.set_cons_zero, List.set_cons_succ]
      refine wpAnyH_takeL (i := 2) (v := ?g3qv2x3) rfl (by kernel_rfl) (by kernel_rfl) (by kernel_rfl) (fun _ _ _ h => h) (Or.inl ⟨by rfl, ?g3qy2x3⟩) (by assumption) ?g3qr2x3
      case g3qy2x3 => first | (intro w hSw; (try dsimp only at hSw); go_simp; done) | (intro w hSw; (try dsimp only at hSw); go_simp; with_reducible rfl)
      case' g3qr2x3 => try simp only [Act.put, List.setIfInBounds_toArray, List.set_cons_zero, List.set_cons_succ]
      refine wpAnyH_takeL (i := 3) (v := ?g3qv3x4) rfl (by kernel_rfl) (by kernel_rfl) (by kernel_rfl) (fun _ _ _ h => h) (Or.inl ⟨by rfl, ?g3qy3x4⟩) (by assumption) ?g3qr3x4
      case g3qy3x4 => first | (intro w hSw; (try dsimp only at hSw); go_simp; done) | (intro w hSw; (try dsimp only at hSw); go_simp; with_reducible rfl)
      case' g3qr3x4 => try simp only [Act.put, List.setIfInBounds_toArray, List.set_cons_zero, List.set_cons_succ]
      refine wpAnyH_takeL (i := 4) (v := ?g3qv4x5) rfl (by kernel_rfl) (by kernel_rfl) (by kernel_rfl) (fun _ _ _ h => h) (Or.inl ⟨by rfl, ?g3qy4x5⟩) (by assumption) ?g3qr4x5
      case g3qy4x5 => first | (intro w hSw; (try dsimp only at hSw); go_simp; done) | (intro w hSw; (try dsimp only at hSw); go_simp; with_reducible rfl)
      case' g3qr4x5 => try simp only [Act.put, List.setIfInBounds_toArray, List.set_cons_zero, List.set_cons_succ]
      refine wpAnyH_takeL (i := 5) (v := ?g3qv5x6) rfl (by kernel_rfl) (by kernel_rfl) (by kernel_rfl) (fun _ _ _ h => h) (Or.inl ⟨by rfl, ?g3qy5x6⟩) (by assumption) ?g3qr5x6
      case g3qy5x6 => first | (intro w hSw; (try dsimp only at hSw); go_simp; done) | (intro w hSw; (try dsimp only at hSw); go_simp; with_reducible rfl)
      case' g3qr5x6 => try simp only [Act.put, List.setIfInBounds_toArray, List.set_cons_zero, List.set_cons_succ]
      refine wpAnyH_takeL (i := 6) (v := ?g3qv6x7) rfl (by kernel_rfl) (by kernel_rfl) (by kernel_rfl) (fun _ _ _ h => h) (Or.inl ⟨by rfl, ?g3qy6x7⟩) (by assumption) ?g3qr6x7
      case g3qy6x7 => first | (intro w hSw; (try dsimp only at hSw); go_simp; done) | (intro w hSw; (try dsimp only at hSw); go_simp; with_reducible rfl)
      case' g3qr6x7 => try simp only [Act.put, List.setIfInBounds_toArray, List.set_cons_zero, List.set_cons_succ]
      refine wpAnyH_takeL (i := 7) (v := ?g3qv7x8) rfl (by kernel_rfl) (by kernel_rfl) (by kernel_rfl) (fun _ _ _ h => h) (Or.inl ⟨by rfl, ?g3qy7x8⟩) (by assumption) ?g3qr7x8
      case g3qy7x8 => first | (intro w hSw; (try dsimp only at hSw); go_simp; done) | (intro w hSw; (try dsimp only at hSw); go_simp; with_reducible rfl)
      case' g3qr7x8 => try simp only [Act.put, List.setIfInBounds_toArray, List.set_cons_zero, List.set_cons_succ]
      refine wpAnyH_ready (rs := [8, 9]) (by kernel_rfl) (by simp) ?_
      refine (AllReadyH.consL rfl (fun K hK => ?g3qb8x9) (AllReadyH.consL rfl (fun K hK => ?g3qb9x9) AllReadyH.nil))
      case' g3qb8x9 =>
        go_simp
        go_at_call 31
        obtain ⟨lo, hlo, HLO0⟩ := rk_lo HXg3q_0.out
        refine (HB.out _ HXg3q_0.out).mono ?_
        rintro e wL ⟨hEg3q1, v1, v2, v3, rfl, hs1, hs2, hs3, -, -⟩
        obtain ⟨A1, c1, rfl, hc1, hc1'⟩ := hs1.form
        obtain ⟨A2, c2, rfl, hc2, hc2'⟩ := hs2.form
        obtain ⟨A3, c3, rfl, hc3, hc3'⟩ := hs3.form
        simp only [] at hs1 hs2 hs3 hc1 hc2 hc3 ⊢
        rw [HM1.out] at hs1 hc1 ⊢
        rw [HLU.out] at hs2 hc2 ⊢
        rw [HLC.out] at hs3 hc3 ⊢
        rw [← hlo] at hs1 hs2 hs3
        obtain ⟨hiX, hhX⟩ : ∃ hiX, wL.heap.size = hiX := ⟨_, rfl⟩
        have HRR3 := hid (show RkR lo hiX (.slice A1 (m + 1) c1) (.slice A2 lu c2) (.slice A3 lc c3) ⟨x, nz, acc ++ [z], su, ca⟩ wL from by rw [← hhX]; exact RkR.new hs1 hs2 hs3)
        have HLO : Hid (wr.heap.size ≤ lo) := hid HLO0
        have HHI := hid (show ZGe hiX wL from Nat.le_of_eq hhX.symm)
        try have HAS := hid (show aZ < lo from by rw [hlo]; exact HZB.out.bx.lt)
        clear hs1 hs2 hs3 hhX hlo HLO0 hc1 hc2 hc3 hc1' hc2' hc3'
        have HXg3q_1 := hid (HXg3q_0.out.trans hEg3q1)
        clear hEg3q1
        refine hK.out _ _ (ext5c HCX.out HXg3q_1.out) (fun hSg3q1 => ?_)
        clear hK K
        try simp only [Act.put, List.setIfInBounds_toArray, List.set_cons_zero, List.set_cons_succ]
        refine wpAnyH_ready (rs := [9]) (by kernel_rfl) (by simp) ?_
        refine (AllReadyH.consL rfl (fun K hK => ?g3qb9x10) AllReadyH.nil)
        case' g3qb9x10 =>
          go_simp
          obtain ⟨wL, aZ, hA1, hsz, hEg3q2, hge, hob⟩ := extAllocK HXg3q_1.out
          refine Eq.mpr (congrArg (K _) hA1) ?_
          first | rw [hsz] | (have hq : wr.heap.size = aZ := hsz; rw [hq]; clear hq) | skip
          have HZB := hid (show ZBk wr.heap.size aZ wL from ⟨hob, hge⟩)
          try have HAL := hid (show hiX ≤ aZ from Nat.le_trans HHI.out (Nat.le_of_eq hsz))
          clear hA1 hsz hge hob
          have HXg3q_2 := hid (HXg3q_1.out.trans hEg3q2)
          have HRR3 := hid (HRR3.out.ext hEg3q2)
          have HHI := hid (HHI.out.ext hEg3q2)
          clear hEg3q2
          refine hK.out _ _ (ext5c HCX.out HXg3q_2.out) (fun hSg3q2 => ?_)
          clear hK K
          try simp only [Act.put, List.setIfInBounds_toArray, List.set_cons_zero, List.set_cons_succ]
          refine wpAnyH_ready (rs := [10]) (by kernel_rfl) (by simp) ?_
          refine (AllReadyH.consL rfl (fun K hK => ?g3qb10x11) AllReadyH.nil)
          case' g3qb10x11 =>
            have HXend := HXg3q_2
            have y0 := HZB.out.bx.c0
            have y1 := HZB.out.bx.c1
            have y2 := HZB.out.bx.c2
            have y3 := HZB.out.bx.c3
            have y4 := HZB.out.bx.c4
            have yf := HZB.out.bx.fz
            go_simp
            refine hK.out _ _ (ext5c HCX.out (((((HXg3q_2.out.setCell HZB.out.ge _).setCell HZB.out.ge _).setCell HZB.out.ge _).setCell HZB.out.ge _).setCell HZB.out.ge _)) (fun hSg3q3 => ?_)
            clear hK K
            try simp only [Act.put, List.setIfInBounds_toArray, List.set_cons_zero, List.set_cons_succ]
            refine wpAnyH_done (by kernel_rfl) ?_ _
            have hne : ∀ b, lo ≤ b ∧ b < hiX → b ≠ aZ := fun b hb => by first | (have := HAL.out; omega) | (have := HAS.out; omega)
            obtain ⟨W3, hW3⟩ : ∃ W3, ((((wL.setCell ⟨aZ, 0, none⟩ (.int .u32 x)).setCell ⟨aZ, 1, none⟩ (.int .u32 nz)).setCell ⟨aZ, 2, none⟩ (.slice A1 (m + 1) c1)).setCell ⟨aZ, 3, none⟩ (.slice A2 lu c2)).setCell ⟨aZ, 4, none⟩ (.slice A3 lc c3) = W3 := ⟨_, rfl⟩
            have hbx : Box5 W3 aZ (.int .u32 x) (.int .u32 nz) (.slice A1 (m + 1) c1) (.slice A2 lu c2) (.slice A3 lc c3) := by rw [← hW3]; exact ((((HZB.out.bx.put0 _).put1 _).put2 _).put3 _).put4 _
            have hR3 : RkR lo hiX (.slice A1 (m + 1) c1) (.slice A2 lu c2) (.slice A3 lc c3) ⟨x, nz, acc ++ [z], su, ca⟩ W3 := HRR3.out.same fun b hb => by rw [← hW3]; exact set5_heap (hne b hb)
            have hE3 : Ext wr W3 := by rw [← hW3]; exact ((((HXend.out.setCell HZB.out.ge _).setCell HZB.out.ge _).setCell HZB.out.ge _).setCell HZB.out.ge _).setCell HZB.out.ge _
            rw [hW3]
            have HB3 := hid hbx
            have HR3 := hid hR3
            have HE3 := hid hE3
            have hmz : (acc ++ [z])[m]? = some z := by have := HMM.out; subst this; simp
            obtain ⟨b1, o1, rfl, -, z0, z1, z2, z3, z4, z5, z6, z7, z8⟩ := Sl.in_at hR3.s1 hmz
            obtain ⟨p0, p1, p2, p3, p4, pf⟩ := hbx
            have hcm := hR3.s1.cap
            have hwm : IntKind.i64.wrap (m : Int) = m := IntWalk.i64_in _ (by omega)
            clear hne hW3 hR3 hE3 hmz p0 p1 p3 p4 pf
            obtain ⟨W4, hW4⟩ : ∃ W4, W3.alloc (.cells #[.int .u32 z.addr, .int .u32 z.imm, .int .i64 z.op, .int .i64 z.form, .int .i64 z.width, .int .i64 z.cc, .int .i64 z.a, .int .i64 z.b, .int .i64 z.size] 61) = W4 := ⟨_, rfl⟩
            have hE4 : Ext W3 W4 := by rw [← hW4]; exact (Ext.refl W3).alloc _
            have HB4 : Hid (Box9 W4 W3.heap.size z) := hid (by rw [← hW4]; exact Box9.new W3 z _)
            have HE4 := hid hE4
            clear hE4 hcm
            go_upto_region 10 with fail
            clear hwm hW4 p2 z0 z1 z2 z3 z4 z5 z6 z7 z8
            have HX4 := hid (HX.out.trans (HE3.out.trans HE4.out))
            have HXW4 := hid (HXW.out.trans (HE3.out.trans HE4.out))
            obtain ⟨c0, c1', c2', c3', c4', c5', c6', c7', c8'⟩ := HB4.out
            have HTI := hid (HTA.out W4 HXW4.out z.addr)
            obtain ⟨tr, htr⟩ : ∃ tr, tabOf tabs at_ z.addr = tr := ⟨_, rfl⟩
            rw [htr] at HTI
            have HTR := hid htr
            obtain ⟨tb, htb⟩ : ∃ tb, tr.isSome = tb := ⟨_, rfl⟩
            have HTB := hid htb
            clear htr htb
            go_wp2_with fail
            refine (HTI.out).mono ?_
            rintro ee w5 ⟨hx5, AT, cT, rfl, hsT⟩
            have HIC := hid (fun W => rind_any W z)
            have e9 : inV z = .agg #[.int .u32 z.addr, .int .u32 z.imm, .int .i64 z.op, .int .i64 z.form, .int .i64 z.width, .int .i64 z.cc, .int .i64 z.a, .int .i64 z.b, .int .i64 z.size] := rfl
            rw [e9] at HIC
            obtain ⟨iz, hiz⟩ : ∃ iz, indI z = iz := ⟨_, rfl⟩
            rw [hiz] at HIC
            have HIZ := hid hiz
            rw [HTB.out]
            have HX5 := hid hx5
            have c0 := hx5.cell c0
            have c1' := hx5.cell c1'
            have c2' := hx5.cell c2'
            have c3' := hx5.cell c3'
            have c4' := hx5.cell c4'
            have c5' := hx5.cell c5'
            have c6' := hx5.cell c6'
            have c7' := hx5.cell c7'
            have c8' := hx5.cell c8'
            clear hx5 hsT e9 hiz
            go_wp2_with fail
            refine (HIC.out _).mono ?_
            rintro ee w6 ⟨rfl, hx6⟩
            have HXA := hid (HE4.out.trans (HX5.out.trans hx6))
            have HX6 := hid (HX4.out.trans (HX5.out.trans hx6))
            have HLZ : Hid (lastOf (BB x) = z) := hid (by rw [HBQ.out]; unfold lastOf; simp)
            have HBD : Hid (badB tabs at_ (BB x) = (iz && !tb)) := hid (by unfold badB; rw [HLZ.out, HTR.out, ← indI_L, HIZ.out, ← HTB.out]; cases tr <;> rfl)
            clear hx6 c0 c1' c2' c3' c4' c5' c6' c7' c8'
            obtain ⟨bad, hbad⟩ : ∃ bad, (iz && !tb) = bad := ⟨_, rfl⟩
            rw [hbad] at HBD
            cases bad with
            | true =>
              obtain ⟨rfl, rfl⟩ : iz = true ∧ tb = false := by revert hbad; cases iz <;> cases tb <;> simp
              have HRE : Hid (RES = ([], 19)) := hid (by
                rw [HR.out, if_pos]
                exact List.any_eq_true.2 ⟨BB x, List.mem_map.2 ⟨x, List.mem_of_getElem? HKX.out, rfl⟩, HBD.out⟩)
              clear hbad
              go_wp2
              go_ret2
              rw [HRE.out]
              exact ⟨HX2.out.trans HX6.out, none, 0, rfl, Sl.nil⟩
            | false =>
              have HB6 := hid (HB3.out.ext HXA.out)
              have HR6 := hid (HR3.out.ext HXA.out)
              have HO6 := hid (HO.out.ext (HE3.out.trans HXA.out))
              have HREL : Hid (bsR.rel w6 (fun b => V.heap.size ≤ b ∧ some b ≠ (Value.slice A' M.length c').ownBlock) [.int .u32 x, .int .u32 nz, .slice (some ⟨b1, o1, none⟩) (m + 1) c1, .slice A2 lu c2, .slice A3 lc c3] ⟨x, nz, acc ++ [z], su, ca⟩) := hid (by
                have key : ∀ b, wr.heap.size ≤ b → V.heap.size ≤ b ∧ some b ≠ (Value.slice A' M.length c').ownBlock := fun b hb => ⟨Nat.le_trans HX.out.size hb, fun e => by have := (HO.out.block _ e.symm).2; omega⟩
                have hlo := HLO.out
                refine ⟨_, _, _, rfl, ?_, ?_, ?_, hx32, hnz32⟩
                · exact (HR6.out.s1.mono fun b hb _ => key b (by omega))
                · exact (HR6.out.s2.mono fun b hb _ => key b (by omega))
                · exact (HR6.out.s3.mono fun b hb _ => key b (by omega)))
              obtain ⟨p0, p1, p2, p3, p4, pf⟩ := HB6.out
              obtain ⟨V6, hV6⟩ : ∃ V6, V6 = w6 := ⟨_, rfl⟩
              subst hV6
              have hML' : M.length ≤ 256 := by omega
              have HTAIL : iz = false ∨ (iz = true ∧ tb = true) := by revert hbad; cases iz <;> cases tb <;> simp
              clear hbad pf
              rcases HTAIL with rfl | ⟨rfl, rfl⟩
              case inl =>
                go_wp2_with (first
                  | (at_builtin; refine wpList_app1s rfl (.tmp 59) (.tmp 61) 33 rfl V.heap.size 42 j0 _ 5 80 Try.underlying33 HJF.out HY0.out HY1.out HY2.out rfl bsR rfl (.slice A' M.length c') M rfl HO6.out V6.heap.size rfl ⟨x, nz, acc ++ [z], su, ca⟩ rfl HREL.out (by omega) (by omega) (by exact HX6.out.size) ?_; intro A5 c5 w8 hown5 hg5; have HO8 := hid hown5; have HX8 := hid ((HX6.out.alloc _).grown hg5 (fun k hk => (HO6.out.block _ hk).1)); clear hown5 hg5)
                  | fail)
                first
                  | go_roundw
                  | refine ⟨?rel, ?measure⟩
                case rel =>
                  refine ⟨k + 1, A5, c5, M ++ [⟨x, nz, acc ++ [z], su, ca⟩], by omega, by go_num, by simp, hid (by simpa using HO8.out), HX8, hid ?_, hid ?_⟩
                  · rw [take_snoc' HKX.out, List.map_append, ← HM.out, List.map_cons, List.map_nil, HBQ.out]
                  · intro y hy
                    rcases List.mem_append.1 hy with hy | hy
                    · exact HG.out y hy
                    · rw [List.mem_singleton] at hy
                      rw [hy, ← HBQ.out]
                      exact HBD.out
                case measure => simp [intOf]; omega
              case inr =>
                go_wp2_with (first
                  | (at_builtin; refine wpList_app1s rfl (.tmp 59) (.tmp 61) 33 rfl V.heap.size 42 j0 _ 5 80 Try.underlying33 HJF.out HY0.out HY1.out HY2.out rfl bsR rfl (.slice A' M.length c') M rfl HO6.out V6.heap.size rfl ⟨x, nz, acc ++ [z], su, ca⟩ rfl HREL.out (by omega) (by omega) (by exact HX6.out.size) ?_; intro A5 c5 w8 hown5 hg5; have HO8 := hid hown5; have HX8 := hid ((HX6.out.alloc _).grown hg5 (fun k hk => (HO6.out.block _ hk).1)); clear hown5 hg5)
                  | fail)
                first
                  | go_roundw
                  | refine ⟨?rel, ?measure⟩
                case rel =>
                  refine ⟨k + 1, A5, c5, M ++ [⟨x, nz, acc ++ [z], su, ca⟩], by omega, by go_num, by simp, hid (by simpa using HO8.out), HX8, hid ?_, hid ?_⟩
                  · rw [take_snoc' HKX.out, List.map_append, ← HM.out, List.map_cons, List.map_nil, HBQ.out]
                  · intro y hy
                    rcases List.mem_append.1 hy with hy | hy
                    · exact HG.out y hy
                    · rw [List.mem_singleton] at hy
                      rw [hy, ← HBQ.out]
                      exact HBD.out
                case measure => simp [intOf]; omega
      case' g3qb9x9 =>
        go_simp
        obtain ⟨wL, aZ, hA1, hsz, hEg3q1, hge, hob⟩ := extAllocK HXg3q_0.out
        refine Eq.mpr (congrArg (K _) hA1) ?_
        first | rw [hsz] | (have hq : wr.heap.size = aZ := hsz; rw [hq]; clear hq) | skip
        have HZB := hid (show ZBk wr.heap.size aZ wL from ⟨hob, hge⟩)
        try have HAL := hid (show hiX ≤ aZ from Nat.le_trans HHI.out (Nat.le_of_eq hsz))
        clear hA1 hsz hge hob
        have HXg3q_1 := hid (HXg3q_0.out.trans hEg3q1)
        clear hEg3q1
        refine hK.out _ _ (ext5c HCX.out HXg3q_1.out) (fun hSg3q1 => ?_)
        clear hK K
        try simp only [Act.put, List.setIfInBounds_toArray, List.set_cons_zero, List.set_cons_succ]
        refine wpAnyH_ready (rs := [8]) (by kernel_rfl) (by simp) ?_
        refine (AllReadyH.consL rfl (fun K hK => ?g3qb8x12) AllReadyH.nil)
        case' g3qb8x12 =>
          go_simp
          go_at_call 31
          obtain ⟨lo, hlo, HLO0⟩ := rk_lo HXg3q_1.out
          refine (HB.out _ HXg3q_1.out).mono ?_
          rintro e wL ⟨hEg3q2, v1, v2, v3, rfl, hs1, hs2, hs3, -, -⟩
          obtain ⟨A1, c1, rfl, hc1, hc1'⟩ := hs1.form
          obtain ⟨A2, c2, rfl, hc2, hc2'⟩ := hs2.form
          obtain ⟨A3, c3, rfl, hc3, hc3'⟩ := hs3.form
          simp only [] at hs1 hs2 hs3 hc1 hc2 hc3 ⊢
          rw [HM1.out] at hs1 hc1 ⊢
          rw [HLU.out] at hs2 hc2 ⊢
          rw [HLC.out] at hs3 hc3 ⊢
          rw [← hlo] at hs1 hs2 hs3
          obtain ⟨hiX, hhX⟩ : ∃ hiX, wL.heap.size = hiX := ⟨_, rfl⟩
          have HRR3 := hid (show RkR lo hiX (.slice A1 (m + 1) c1) (.slice A2 lu c2) (.slice A3 lc c3) ⟨x, nz, acc ++ [z], su, ca⟩ wL from by rw [← hhX]; exact RkR.new hs1 hs2 hs3)
          have HLO : Hid (wr.heap.size ≤ lo) := hid HLO0
          have HHI := hid (show ZGe hiX wL from Nat.le_of_eq hhX.symm)
          try have HAS := hid (show aZ < lo from by rw [hlo]; exact HZB.out.bx.lt)
          clear hs1 hs2 hs3 hhX hlo HLO0 hc1 hc2 hc3 hc1' hc2' hc3'
          have HXg3q_2 := hid (HXg3q_1.out.trans hEg3q2)
          have HZB := hid (HZB.out.ext hEg3q2)
          clear hEg3q2
          refine hK.out _ _ (ext5c HCX.out HXg3q_2.out) (fun hSg3q2 => ?_)
          clear hK K
          try simp only [Act.put, List.setIfInBounds_toArray, List.set_cons_zero, List.set_cons_succ]
          refine wpAnyH_ready (rs := [10]) (by kernel_rfl) (by simp) ?_
          refine (AllReadyH.consL rfl (fun K hK => ?g3qb10x13) AllReadyH.nil)
          case' g3qb10x13 =>
            have HXend := HXg3q_2
            have y0 := HZB.out.bx.c0
            have y1 := HZB.out.bx.c1
            have y2 := HZB.out.bx.c2
            have y3 := HZB.out.bx.c3
            have y4 := HZB.out.bx.c4
            have yf := HZB.out.bx.fz
            go_simp
            refine hK.out _ _ (ext5c HCX.out (((((HXg3q_2.out.setCell HZB.out.ge _).setCell HZB.out.ge _).setCell HZB.out.ge _).setCell HZB.out.ge _).setCell HZB.out.ge _)) (fun hSg3q3 => ?_)
            clear hK K
            try simp only [Act.put, List.setIfInBounds_toArray, List.set_cons_zero, List.set_cons_succ]
            refine wpAnyH_done (by kernel_rfl) ?_ _
            have hne : ∀ b, lo ≤ b ∧ b < hiX → b ≠ aZ := fun b hb => by first | (have := HAL.out; omega) | (have := HAS.out; omega)
            obtain ⟨W3, hW3⟩ : ∃ W3, ((((wL.setCell ⟨aZ, 0, none⟩ (.int .u32 x)).setCell ⟨aZ, 1, none⟩ (.int .u32 nz)).setCell ⟨aZ, 2, none⟩ (.slice A1 (m + 1) c1)).setCell ⟨aZ, 3, none⟩ (.slice A2 lu c2)).setCell ⟨aZ, 4, none⟩ (.slice A3 lc c3) = W3 := ⟨_, rfl⟩
            have hbx : Box5 W3 aZ (.int .u32 x) (.int .u32 nz) (.slice A1 (m + 1) c1) (.slice A2 lu c2) (.slice A3 lc c3) := by rw [← hW3]; exact ((((HZB.out.bx.put0 _).put1 _).put2 _).put3 _).put4 _
            have hR3 : RkR lo hiX (.slice A1 (m + 1) c1) (.slice A2 lu c2) (.slice A3 lc c3) ⟨x, nz, acc ++ [z], su, ca⟩ W3 := HRR3.out.same fun b hb => by rw [← hW3]; exact set5_heap (hne b hb)
            have hE3 : Ext wr W3 := by rw [← hW3]; exact ((((HXend.out.setCell HZB.out.ge _).setCell HZB.out.ge _).setCell HZB.out.ge _).setCell HZB.out.ge _).setCell HZB.out.ge _
            rw [hW3]
            have HB3 := hid hbx
            have HR3 := hid hR3
            have HE3 := hid hE3
            have hmz : (acc ++ [z])[m]? = some z := by have := HMM.out; subst this; simp
            obtain ⟨b1, o1, rfl, -, z0, z1, z2, z3, z4, z5, z6, z7, z8⟩ := Sl.in_at hR3.s1 hmz
            obtain ⟨p0, p1, p2, p3, p4, pf⟩ := hbx
            have hcm := hR3.s1.cap
            have hwm : IntKind.i64.wrap (m : Int) = m := IntWalk.i64_in _ (by omega)
            clear hne hW3 hR3 hE3 hmz p0 p1 p3 p4 pf
            obtain ⟨W4, hW4⟩ : ∃ W4, W3.alloc (.cells #[.int .u32 z.addr, .int .u32 z.imm, .int .i64 z.op, .int .i64 z.form, .int .i64 z.width, .int .i64 z.cc, .int .i64 z.a, .int .i64 z.b, .int .i64 z.size] 61) = W4 := ⟨_, rfl⟩
            have hE4 : Ext W3 W4 := by rw [← hW4]; exact (Ext.refl W3).alloc _
            have HB4 : Hid (Box9 W4 W3.heap.size z) := hid (by rw [← hW4]; exact Box9.new W3 z _)
            have HE4 := hid hE4
            clear hE4 hcm
            go_upto_region 10 with fail
            clear hwm hW4 p2 z0 z1 z2 z3 z4 z5 z6 z7 z8
            have HX4 := hid (HX.out.trans (HE3.out.trans HE4.out))
            have HXW4 := hid (HXW.out.trans (HE3.out.trans HE4.out))
            obtain ⟨c0, c1', c2', c3', c4', c5', c6', c7', c8'⟩ := HB4.out
            have HTI := hid (HTA.out W4 HXW4.out z.addr)
            obtain ⟨tr, htr⟩ : ∃ tr, tabOf tabs at_ z.addr = tr := ⟨_, rfl⟩
            rw [htr] at HTI
            have HTR := hid htr
            obtain ⟨tb, htb⟩ : ∃ tb, tr.isSome = tb := ⟨_, rfl⟩
            have HTB := hid htb
            clear htr htb
            go_wp2_with fail
            refine (HTI.out).mono ?_
            rintro ee w5 ⟨hx5, AT, cT, rfl, hsT⟩
            have HIC := hid (fun W => rind_any W z)
            have e9 : inV z = .agg #[.int .u32 z.addr, .int .u32 z.imm, .int .i64 z.op, .int .i64 z.form, .int .i64 z.width, .int .i64 z.cc, .int .i64 z.a, .int .i64 z.b, .int .i64 z.size] := rfl
            rw [e9] at HIC
            obtain ⟨iz, hiz⟩ : ∃ iz, indI z = iz := ⟨_, rfl⟩
            rw [hiz] at HIC
            have HIZ := hid hiz
            rw [HTB.out]
            have HX5 := hid hx5
            have c0 := hx5.cell c0
            have c1' := hx5.cell c1'
            have c2' := hx5.cell c2'
            have c3' := hx5.cell c3'
            have c4' := hx5.cell c4'
            have c5' := hx5.cell c5'
            have c6' := hx5.cell c6'
            have c7' := hx5.cell c7'
            have c8' := hx5.cell c8'
            clear hx5 hsT e9 hiz
            go_wp2_with fail
            refine (HIC.out _).mono ?_
            rintro ee w6 ⟨rfl, hx6⟩
            have HXA := hid (HE4.out.trans (HX5.out.trans hx6))
            have HX6 := hid (HX4.out.trans (HX5.out.trans hx6))
            have HLZ : Hid (lastOf (BB x) = z) := hid (by rw [HBQ.out]; unfold lastOf; simp)
            have HBD : Hid (badB tabs at_ (BB x) = (iz && !tb)) := hid (by unfold badB; rw [HLZ.out, HTR.out, ← indI_L, HIZ.out, ← HTB.out]; cases tr <;> rfl)
            clear hx6 c0 c1' c2' c3' c4' c5' c6' c7' c8'
            obtain ⟨bad, hbad⟩ : ∃ bad, (iz && !tb) = bad := ⟨_, rfl⟩
            rw [hbad] at HBD
            cases bad with
            | true =>
              obtain ⟨rfl, rfl⟩ : iz = true ∧ tb = false := by revert hbad; cases iz <;> cases tb <;> simp
              have HRE : Hid (RES = ([], 19)) := hid (by
                rw [HR.out, if_pos]
                exact List.any_eq_true.2 ⟨BB x, List.mem_map.2 ⟨x, List.mem_of_getElem? HKX.out, rfl⟩, HBD.out⟩)
              clear hbad
              go_wp2
              go_ret2
              rw [HRE.out]
              exact ⟨HX2.out.trans HX6.out, none, 0, rfl, Sl.nil⟩
            | false =>
              have HB6 := hid (HB3.out.ext HXA.out)
              have HR6 := hid (HR3.out.ext HXA.out)
              have HO6 := hid (HO.out.ext (HE3.out.trans HXA.out))
              have HREL : Hid (bsR.rel w6 (fun b => V.heap.size ≤ b ∧ some b ≠ (Value.slice A' M.length c').ownBlock) [.int .u32 x, .int .u32 nz, .slice (some ⟨b1, o1, none⟩) (m + 1) c1, .slice A2 lu c2, .slice A3 lc c3] ⟨x, nz, acc ++ [z], su, ca⟩) := hid (by
                have key : ∀ b, wr.heap.size ≤ b → V.heap.size ≤ b ∧ some b ≠ (Value.slice A' M.length c').ownBlock := fun b hb => ⟨Nat.le_trans HX.out.size hb, fun e => by have := (HO.out.block _ e.symm).2; omega⟩
                have hlo := HLO.out
                refine ⟨_, _, _, rfl, ?_, ?_, ?_, hx32, hnz32⟩
                · exact (HR6.out.s1.mono fun b hb _ => key b (by omega))
                · exact (HR6.out.s2.mono fun b hb _ => key b (by omega))
                · exact (HR6.out.s3.mono fun b hb _ => key b (by omega)))
              obtain ⟨p0, p1, p2, p3, p4, pf⟩ := HB6.out
              obtain ⟨V6, hV6⟩ : ∃ V6, V6 = w6 := ⟨_, rfl⟩
              subst hV6
              have hML' : M.length ≤ 256 := by omega
              have HTAIL : iz = false ∨ (iz = true ∧ tb = true) := by revert hbad; cases iz <;> cases tb <;> simp
              clear hbad pf
              rcases HTAIL with rfl | ⟨rfl, rfl⟩
              case inl =>
                go_wp2_with (first
                  | (at_builtin; refine wpList_app1s rfl (.tmp 59) (.tmp 61) 33 rfl V.heap.size 42 j0 _ 5 80 Try.underlying33 HJF.out HY0.out HY1.out HY2.out rfl bsR rfl (.slice A' M.length c') M rfl HO6.out V6.heap.size rfl ⟨x, nz, acc ++ [z], su, ca⟩ rfl HREL.out (by omega) (by omega) (by exact HX6.out.size) ?_; intro A5 c5 w8 hown5 hg5; have HO8 := hid hown5; have HX8 := hid ((HX6.out.alloc _).grown hg5 (fun k hk => (HO6.out.block _ hk).1)); clear hown5 hg5)
                  | fail)
                first
                  | go_roundw
                  | refine ⟨?rel, ?measure⟩
                case rel =>
                  refine ⟨k + 1, A5, c5, M ++ [⟨x, nz, acc ++ [z], su, ca⟩], by omega, by go_num, by simp, hid (by simpa using HO8.out), HX8, hid ?_, hid ?_⟩
                  · rw [take_snoc' HKX.out, List.map_append, ← HM.out, List.map_cons, List.map_nil, HBQ.out]
                  · intro y hy
                    rcases List.mem_append.1 hy with hy | hy
                    · exact HG.out y hy
                    · rw [List.mem_singleton] at hy
                      rw [hy, ← HBQ.out]
                      exact HBD.out
                case measure => simp [intOf]; omega
              case inr =>
                go_wp2_with (first
                  | (at_builtin; refine wpList_app1s rfl (.tmp 59) (.tmp 61) 33 rfl V.heap.size 42 j0 _ 5 80 Try.underlying33 HJF.out HY0.out HY1.out HY2.out rfl bsR rfl (.slice A' M.length c') M rfl HO6.out V6.heap.size rfl ⟨x, nz, acc ++ [z], su, ca⟩ rfl HREL.out (by omega) (by omega) (by exact HX6.out.size) ?_; intro A5 c5 w8 hown5 hg5; have HO8 := hid hown5; have HX8 := hid ((HX6.out.alloc _).grown hg5 (fun k hk => (HO6.out.block _ hk).1)); clear hown5 hg5)
                  | fail)
                first
                  | go_roundw
                  | refine ⟨?rel, ?measure⟩
                case rel =>
                  refine ⟨k + 1, A5, c5, M ++ [⟨x, nz, acc ++ [z], su, ca⟩], by omega, by go_num, by simp, hid (by simpa using HO8.out), HX8, hid ?_, hid ?_⟩
                  · rw [take_snoc' HKX.out, List.map_append, ← HM.out, List.map_cons, List.map_nil, HBQ.out]
                  · intro y hy
                    rcases List.mem_append.1 hy with hy | hy
                    · exact HG.out y hy
                    · rw [List.mem_singleton] at hy
                      rw [hy, ← HBQ.out]
                      exact HBD.out
                case measure => simp [intOf]; omega
    · obtain rfl : k = N := by omega
      have hMe : M = R.map BB := by rw [HM.out, List.take_of_length_le (by have := HN.out; omega)]
      have hRE : RES = (M, 0) := by
        rw [HR.out, if_neg, ← hMe]
        rw [← hMe]
        intro hb
        obtain ⟨y, hy, hb⟩ := List.any_eq_true.1 hb
        rw [HG.out y hy] at hb
        cases hb
      have HRE := hid hRE
      clear hMe hRE
      go_wp2
      go_ret2
      rw [HRE.out]
      exact ⟨HX2.out.trans HX.out, A', c', rfl, HO.out.sl⟩
end Go.Proofs.Ytolbnhkdpbdhhaa

namespace Go.Proofs.Ytolbnhkdpbdhhaa
open Go.RowKit Go.Deco
set_option linter.unusedSimpArgs false
set_option linter.unusedVariables false
set_option maxRecDepth 100000

theorem Sl.row_at {w : World} {S : Nat → Prop} {A : Option Addr} {n c k : Nat} {l : List (List Nat)} {x : List Nat} (h : Sl u32sR w S (.slice A n c) l) (hk : l[k]? = some x) :
    ∃ b off A' c', A = some ⟨b, off, none⟩ ∧ w.cell? ⟨b, off + k, none⟩ = some (.slice A' x.length c') ∧ Sl u32R w S (.slice A' x.length c') x := by
  obtain ⟨b, off, cs, hA, ⟨v, hcs, hv⟩, hc⟩ := h.get hk
  obtain ⟨A', c', rfl, _⟩ := hv.form
  subst hcs
  exact ⟨b, off, A', c', hA, by simpa [slR] using hc 0 _ rfl, hv⟩

set_option maxHeartbeats 4000000 in
theorem same17_any (w : World) (A1 A2 A3 B1 B2 B3 : Option Addr) (c1 c2 c3 d1 d2 d3 : Nat) (x : Bs)
    (h1 : Sl insR w All (.slice A1 x.ins.length c1) x.ins) (h2 : Sl u32R w All (.slice A2 x.succ.length c2) x.succ) (h3 : Sl u32sR w All (.slice A3 x.calls.length c3) x.calls)
    (k1 : Sl insR w All (.slice B1 x.ins.length d1) x.ins) (k2 : Sl u32R w All (.slice B2 x.succ.length d2) x.succ) (k3 : Sl u32sR w All (.slice B3 x.calls.length d3) x.calls) :
    Calls Try.prog 14 #[.agg #[.int .u32 x.addr, .int .u32 x.end_, .slice A1 x.ins.length c1, .slice A2 x.succ.length c2, .slice A3 x.calls.length c3], .agg #[.int .u32 x.addr, .int .u32 x.end_, .slice B1 x.ins.length d1, .slice B2 x.succ.length d2, .slice B3 x.calls.length d3]] w (OneBool w true) := by
  obtain ⟨a, e, ins, su, ca⟩ := x
  simp only [] at h1 h2 h3 k1 k2 k3 ⊢
  obtain ⟨m, hm⟩ : ∃ m, ins.length = m := ⟨_, rfl⟩
  obtain ⟨q, hq⟩ : ∃ q, su.length = q := ⟨_, rfl⟩
  obtain ⟨p, hp⟩ : ∃ p, ca.length = p := ⟨_, rfl⟩
  rw [hm] at h1 k1 ⊢
  rw [hq] at h2 k2 ⊢
  rw [hp] at h3 k3 ⊢
  have HM := hid hm
  have HP := hid hp
  clear hm hq hp
  have hc1 := h1.cap
  have hc3 := h3.cap
  obtain ⟨W0, hW0⟩ : ∃ W0, (w.alloc (.cells #[.int .u32 a, .int .u32 e, .slice A1 m c1, .slice A2 q c2, .slice A3 p c3] 41)).alloc (.cells #[.int .u32 a, .int .u32 e, .slice B1 m d1, .slice B2 q d2, .slice B3 p d3] 42) = W0 := ⟨_, rfl⟩
  have hE : Ext w W0 := by rw [← hW0]; exact ((Ext.refl w).alloc _).alloc _
  have x0 : W0.cell? ⟨w.heap.size, 0, none⟩ = some (.int .u32 a) := by rw [← hW0]; simp [go_sem]
  have x1 : W0.cell? ⟨w.heap.size, 1, none⟩ = some (.int .u32 e) := by rw [← hW0]; simp [go_sem]
  have x2 : W0.cell? ⟨w.heap.size, 2, none⟩ = some (.slice A1 m c1) := by rw [← hW0]; simp [go_sem]
  have x3 : W0.cell? ⟨w.heap.size, 3, none⟩ = some (.slice A2 q c2) := by rw [← hW0]; simp [go_sem]
  have x4 : W0.cell? ⟨w.heap.size, 4, none⟩ = some (.slice A3 p c3) := by rw [← hW0]; simp [go_sem]
  have y0 : W0.cell? ⟨w.heap.size + 1, 0, none⟩ = some (.int .u32 a) := by rw [← hW0]; simp [go_sem]
  have y1 : W0.cell? ⟨w.heap.size + 1, 1, none⟩ = some (.int .u32 e) := by rw [← hW0]; simp [go_sem]
  have y2 : W0.cell? ⟨w.heap.size + 1, 2, none⟩ = some (.slice B1 m d1) := by rw [← hW0]; simp [go_sem]
  have y3 : W0.cell? ⟨w.heap.size + 1, 3, none⟩ = some (.slice B2 q d2) := by rw [← hW0]; simp [go_sem]
  have y4 : W0.cell? ⟨w.heap.size + 1, 4, none⟩ = some (.slice B3 p d3) := by rw [← hW0]; simp [go_sem]
  have n0 : ((a : Int) != (a : Int)) = false := by simp
  have n1 : ((e : Int) != (e : Int)) = false := by simp
  have n2 : ((m : Int) != (m : Int)) = false := by simp
  have n3 : ((p : Int) != (p : Int)) = false := by simp
  have HN := hid (fun W (h : Ext w W) => nums_any W A2 B2 q c2 d2 su (h2.ext h) (k2.ext h))
  have HNX := hid (fun W A' B' c' d' (l : List Nat) (h1 : Sl u32R W All (.slice A' l.length c') l) (h2 : Sl u32R W All (.slice B' l.length d') l) => nums_any W A' B' l.length c' d' l h1 h2)
  have H1 := hid h1
  have H3 := hid h3
  have K1 := hid k1
  have K3 := hid k3
  have HE := hid hE
  have X2 := hid x2
  have Y2 := hid y2
  have X4 := hid x4
  have Y4 := hid y4
  clear h1 h2 h3 k1 k2 k3 hE
  go_enter Try.func14, Try.ntmps14
  go_wp2_with fail
  refine (HN.out W0 HE.out).mono ?_
  rintro e w1 ⟨rfl, hx1⟩
  have x2 := hx1.cell x2
  have x4 := hx1.cell x4
  have y2 := hx1.cell y2
  have y4 := hx1.cell y4
  have HX1 := hid hx1
  clear hx1 hW0 x0 x1 x3 y0 y1 y3
  go_wp2
  clear x2 x4 y2 y4 n0 n1 n2 n3
  go_loopw [5] (fun i wr => ∃ j : Nat, j ≤ p ∧ i = .int .i64 j ∧ Hid (Ext W0 wr)) (fun i _ => p - (intOf i).toNat)
  case atStart => exact ⟨0, by omega, rfl, HX1⟩
  case round =>
    obtain ⟨j, hj, rfl, HX⟩ := hrel
    have x4 := HX.out.cell X4.out
    have y4 := HX.out.cell Y4.out
    by_cases hjp : j < p
    · obtain ⟨r, hr⟩ : ∃ r, ca[j]? = some r := ⟨_, List.getElem?_eq_getElem (by have := HP.out; omega)⟩
      obtain ⟨b, o, A', c', rfl, e1, s1⟩ := Sl.row_at (H3.out.ext (HE.out.trans HX.out)) hr
      obtain ⟨b', o', B', d', rfl, e2, s2⟩ := Sl.row_at (K3.out.ext (HE.out.trans HX.out)) hr
      obtain ⟨L, hL⟩ : ∃ L, r.length = L := ⟨_, rfl⟩
      have HNR := hid (fun W (h : Ext wr W) => HNX.out W A' B' c' d' r (s1.ext h) (s2.ext h))
      rw [hL] at HNR e1 e2
      have i1 : (j : Int) < (p : Int) := by omega
      have i0 : (0 : Int) ≤ (j : Int) := by omega
      clear hr s1 s2 hL
      go_wp2_with fail
      refine wp_region_held_drew (S := (fun w' => w'.cell? ⟨w.heap.size, 4, none⟩ = some (.slice (some ⟨b, o, none⟩) p c3) ∧ w'.cell? ⟨w.heap.size + 1, 4, none⟩ = some (.slice (some ⟨b', o', none⟩) p d3) ∧ w'.cell? ⟨b, o + j, none⟩ = some (.slice A' L c') ∧ w'.cell? ⟨b', o' + j, none⟩ = some (.slice B' L d'))) (by kernel_rfl) ⟨x4, y4, e1, e2⟩ (fun hSg4q0 => ?_)
      refine wpAnyH_takeL (i := 0) (v := ?g4qv0) rfl (by kernel_rfl) (by kernel_rfl) (by kernel_rfl) (fun _ _ _ h => h) (Or.inl ⟨by rfl, ?g4qy0⟩) (by assumption) ?g4qr0
      case g4qy0 => first | (intro w hSw; (try dsimp only at hSw); go_simp; done) | (intro w hSw; (try dsimp only at hSw); go_simp; with_reducible rfl)
      case' g4qr0 => try simp only [Act.put, List.setIfInBounds_toArray, List.set_cons_zero, List.set_cons_succ]
      refine wpAnyH_takeL (i := 1) (v := ?g4qv1) rfl (by kernel_rfl) (by kernel_rfl) (by kernel_rfl) (fun _ _ _ h => h) (Or.inl ⟨by rfl, ?g4qy1⟩) (by assumption) ?g4qr1
      case g4qy1 => first | (intro w hSw; (try dsimp only at hSw); go_simp; done) | (intro w hSw; (try dsimp only at hSw); go_simp; with_reducible rfl)
      case' g4qr1 => try simp only [Act.put, List.setIfInBounds_toArray, List.set_cons_zero, List.set_cons_succ]
      refine wpAnyH_takeL (i := 2) (v := ?g4qv2) rfl (by kernel_rfl) (by kernel_rfl) (by kernel_rfl) (fun _ _ _ h => h) (Or.inl ⟨by rfl, ?g4qy2⟩) (by assumption) ?g4qr2
      case g4qy2 => first | (intro w hSw; (try dsimp only at hSw); go_simp; done) | (intro w hSw; (try dsimp only at hSw); go_simp; with_reducible rfl)
      case' g4qr2 => try simp only [Act.put, List.setIfInBounds_toArray, List.set_cons_zero, List.set_cons_succ]
      refine wpAnyH_takeL (i := 3) (v := ?g4qv3) rfl (by kernel_rfl) (by kernel_rfl) (by kernel_rfl) (fun _ _ _ h => h) (Or.inl ⟨by rfl, ?g4qy3⟩) (by assumption) ?g4qr3
      case g4qy3 => first | (intro w hSw; (try dsimp only at hSw); go_simp; done) | (intro w hSw; (try dsimp only at hSw); go_simp; with_reducible rfl)
      case' g4qr3 => try simp only [Act.put, List.setIfInBounds_toArray, List.set_cons_zero, List.set_cons_succ]
      refine wpAnyH_takeL (i := 4) (v := ?g4qv4) rfl (by kernel_rfl) (by kernel_rfl) (by kernel_rfl) (fun _ _ _ h => h) (Or.inl ⟨by rfl, ?g4qy4⟩) (by assumption) ?g4qr4
      case g4qy4 => first | (intro w hSw; (try dsimp only at hSw); go_simp; done) | (intro w hSw; (try dsimp only at hSw); go_simp; with_reducible rfl)
      case' g4qr4 => try simp only [Act.put, List.setIfInBounds_toArray, List.set_cons_zero, List.set_cons_succ]
      refine wpAnyH_takeL (i := 5) (v := ?g4qv5) rfl (by kernel_rfl) (by kernel_rfl) (by kernel_rfl) (fun _ _ _ h => h) (Or.inl ⟨by rfl, ?g4qy5⟩) (by assumption) ?g4qr5
      case g4qy5 => first | (intro w hSw; (try dsimp only at hSw); go_simp; done) | (intro w hSw; (try dsimp only at hSw); go_simp; with_reducible rfl)
      case' g4qr5 => try simp only [Act.put, List.setIfInBounds_toArray, List.set_cons_zero, List.set_cons_succ]
      refine wpAnyH_takeL (i := 6) (v := ?g4qv6) rfl (by kernel_rfl) (by kernel_rfl) (by kernel_rfl) (fun _ _ _ h => h) (Or.inl ⟨by rfl, ?g4qy6⟩) (by assumption) ?g4qr6
      case g4qy6 => first | (intro w hSw; (try dsimp only at hSw); go_simp; done) | (intro w hSw; (try dsimp only at hSw); go_simp; with_reducible rfl)
      case' g4qr6 => try simp only [Act.put, List.setIfInBounds_toArray, List.set_cons_zero, List.set_cons_succ]
      refine wpAnyH_takeL (i := 7) (v := ?g4qv7) rfl (by kernel_rfl) (by kernel_rfl) (by kernel_rfl) (fun _ _ _ h => h) (Or.inl ⟨by rfl, ?g4qy7⟩) (by assumption) ?g4qr7
      case g4qy7 => first | (intro w hSw; (try dsimp only at hSw); go_simp; done) | (intro w hSw; (try dsimp only at hSw); go_simp; with_reducible rfl)
      case' g4qr7 => try simp only [Act.put, List.setIfInBounds_toArray, List.set_cons_zero, List.set_cons_succ]
      refine wpAnyH_takeL (i := 8) (v := ?g4qv8) rfl (by kernel_rfl) (by kernel_rfl) (by kernel_rfl) (fun _ _ _ h => h) (Or.inl ⟨by rfl, ?g4qy8⟩) (by assumption) ?g4qr8
      case g4qy8 => first | (intro w hSw; (try dsimp only at hSw); go_simp; done) | (intro w hSw; (try dsimp only at hSw); go_simp; with_reducible rfl)
      case' g4qr8 => try simp only [Act.put, List.setIfInBounds_toArray, List.set_cons_zero, List.set_cons_succ]
      refine wpAnyH_takeL (i := 9) (v := ?g4qv9) rfl (by kernel_rfl) (by kernel_rfl) (by kernel_rfl) (fun _ _ _ h => h) (Or.inl ⟨by rfl, ?g4qy9⟩) (by assumption) ?g4qr9
      case g4qy9 => first | (intro w hSw; (try dsimp only at hSw); go_simp; done) | (intro w hSw; (try dsimp only at hSw); go_simp; with_reducible rfl)
      case' g4qr9 => try simp only [Act.put, List.setIfInBounds_toArray, List.set_cons_zero, List.set_cons_succ]
      refine wpAnyH_ready (rs := [10]) (by kernel_rfl) (by simp) ?_
      refine AllReadyH.consL rfl (fun K hK => ?_) AllReadyH.nil
      go_simp
      go_at_call 15
      refine (HNR.out _ (Ext.refl wr).drew).mono ?_
      rintro e w5 ⟨rfl, hx5⟩
      have HX5 := hid hx5.drew_left
      clear hx5
      refine hK.out _ _ ⟨HX5.out.cell x4, HX5.out.cell y4, HX5.out.cell e1, HX5.out.cell e2⟩ (fun hSg4q1 => ?_)
      clear hK K
      try simp only [Act.put, List.setIfInBounds_toArray, List.set_cons_zero, List.set_cons_succ]
      refine wpAnyH_takeL (i := 11) (v := ?g4qv11) rfl (by kernel_rfl) (by kernel_rfl) (by kernel_rfl) (fun _ _ _ h => h) (Or.inl ⟨by rfl, ?g4qy11⟩) (by assumption) ?g4qr11
      case g4qy11 => first | (intro w hSw; (try dsimp only at hSw); go_simp; done) | (intro w hSw; (try dsimp only at hSw); go_simp; with_reducible rfl)
      case' g4qr11 => try simp only [Act.put, List.setIfInBounds_toArray, List.set_cons_zero, List.set_cons_succ]
      refine wpAnyH_done (by kernel_rfl) ?_ _
      go_wp2
      first
        | go_roundw
        | refine ⟨?rel, ?measure⟩
      case rel => exact ⟨j + 1, by omega, by go_num, hid (HX.out.trans HX5.out)⟩
      case measure => simp [intOf]; omega
    · obtain rfl : j = p := by omega
      obtain ⟨V, hV⟩ : ∃ V, V = wr := ⟨_, rfl⟩
      subst hV
      have HXV := HX
      go_wp2
      clear x4 y4
      go_loopw [6] (fun i wr => ∃ t : Nat, t ≤ m ∧ i = .int .i64 t ∧ Hid (Ext W0 wr)) (fun i _ => m - (intOf i).toNat)
      case atStart => exact ⟨0, by omega, rfl, HXV⟩
      case round =>
        obtain ⟨t, ht, rfl, HX2⟩ := hrel
        have x2 := HX2.out.cell X2.out
        have y2 := HX2.out.cell Y2.out
        by_cases htm : t < m
        · obtain ⟨i, hi⟩ : ∃ i, ins[t]? = some i := ⟨_, List.getElem?_eq_getElem (by have := HM.out; omega)⟩
          obtain ⟨b, o, rfl, -, z0, z1, z2, z3, z4, z5, z6, z7, z8⟩ := Sl.in_at (H1.out.ext (HE.out.trans HX2.out)) hi
          obtain ⟨b', o', rfl, -, v0, v1, v2, v3, v4, v5, v6, v7, v8⟩ := Sl.in_at (K1.out.ext (HE.out.trans HX2.out)) hi
          have i1 : (t : Int) < (m : Int) := by omega
          have i0 : (0 : Int) ≤ (t : Int) := by omega
          clear hi
          go_wp2_with fail
          refine wp_region_held_drew (S := (fun w' => w'.cell? ⟨w.heap.size, 2, none⟩ = some (.slice (some ⟨b, o, none⟩) m c1) ∧ w'.cell? ⟨w.heap.size + 1, 2, none⟩ = some (.slice (some ⟨b', o', none⟩) m d1) ∧ (w'.cell? ⟨b, o + t * 9, none⟩ = some (.int .u32 i.addr) ∧ w'.cell? ⟨b, o + t * 9 + 1, none⟩ = some (.int .u32 i.imm) ∧ w'.cell? ⟨b, o + t * 9 + 2, none⟩ = some (.int .i64 i.op) ∧ w'.cell? ⟨b, o + t * 9 + 3, none⟩ = some (.int .i64 i.form) ∧ w'.cell? ⟨b, o + t * 9 + 4, none⟩ = some (.int .i64 i.width) ∧ w'.cell? ⟨b, o + t * 9 + 5, none⟩ = some (.int .i64 i.cc) ∧ w'.cell? ⟨b, o + t * 9 + 6, none⟩ = some (.int .i64 i.a) ∧ w'.cell? ⟨b, o + t * 9 + 7, none⟩ = some (.int .i64 i.b) ∧ w'.cell? ⟨b, o + t * 9 + 8, none⟩ = some (.int .i64 i.size)) ∧ w'.cell? ⟨b', o' + t * 9, none⟩ = some (.int .u32 i.addr) ∧ w'.cell? ⟨b', o' + t * 9 + 1, none⟩ = some (.int .u32 i.imm) ∧ w'.cell? ⟨b', o' + t * 9 + 2, none⟩ = some (.int .i64 i.op) ∧ w'.cell? ⟨b', o' + t * 9 + 3, none⟩ = some (.int .i64 i.form) ∧ w'.cell? ⟨b', o' + t * 9 + 4, none⟩ = some (.int .i64 i.width) ∧ w'.cell? ⟨b', o' + t * 9 + 5, none⟩ = some (.int .i64 i.cc) ∧ w'.cell? ⟨b', o' + t * 9 + 6, none⟩ = some (.int .i64 i.a) ∧ w'.cell? ⟨b', o' + t * 9 + 7, none⟩ = some (.int .i64 i.b) ∧ w'.cell? ⟨b', o' + t * 9 + 8, none⟩ = some (.int .i64 i.size))) (by kernel_rfl) ⟨x2, y2, ⟨z0, z1, z2, z3, z4, z5, z6, z7, z8⟩, v0, v1, v2, v3, v4, v5, v6, v7, v8⟩ (fun hSg5q0 => ?_)
          refine wpAnyH_takeL (i := 0) (v := ?g5qv0) rfl (by kernel_rfl) (by kernel_rfl) (by kernel_rfl) (fun _ _ _ h => h) (Or.inl ⟨by rfl, ?g5qy0⟩) (by assumption) ?g5qr0
          case g5qy0 => first | (intro w hSw; (try dsimp only at hSw); go_simp; done) | (intro w hSw; (try dsimp only at hSw); go_simp; with_reducible rfl)
          case' g5qr0 => try simp only [Act.put, List.setIfInBounds_toArray, List.set_cons_zero, List.set_cons_succ]
          refine wpAnyH_takeL (i := 1) (v := ?g5qv1) rfl (by kernel_rfl) (by kernel_rfl) (by kernel_rfl) (fun _ _ _ h => h) (Or.inl ⟨by rfl, ?g5qy1⟩) (by assumption) ?g5qr1
          case g5qy1 => first | (intro w hSw; (try dsimp only at hSw); go_simp; done) | (intro w hSw; (try dsimp only at hSw); go_simp; with_reducible rfl)
          case' g5qr1 => try simp only [Act.put, List.setIfInBounds_toArray, List.set_cons_zero, List.set_cons_succ]
          refine wpAnyH_takeL (i := 2) (v := ?g5qv2) rfl (by kernel_rfl) (by kernel_rfl) (by kernel_rfl) (fun _ _ _ h => h) (Or.inl ⟨by rfl, ?g5qy2⟩) (by assumption) ?g5qr2
          case g5qy2 => first | (intro w hSw; (try dsimp only at hSw); go_simp; done) | (intro w hSw; (try dsimp only at hSw); go_simp; with_reducible rfl)
          case' g5qr2 => try simp only [Act.put, List.setIfInBounds_toArray, List.set_cons_zero, List.set_cons_succ]
          refine wpAnyH_takeL (i := 3) (v := ?g5qv3) rfl (by kernel_rfl) (by kernel_rfl) (by kernel_rfl) (fun _ _ _ h => h) (Or.inl ⟨by rfl, ?g5qy3⟩) (by assumption) ?g5qr3
          case g5qy3 => first | (intro w hSw; (try dsimp only at hSw); go_simp; done) | (intro w hSw; (try dsimp only at hSw); go_simp; with_reducible rfl)
          case' g5qr3 => try simp only [Act.put, List.setIfInBounds_toArray, List.set_cons_zero, List.set_cons_succ]
          refine wpAnyH_takeL (i := 4) (v := ?g5qv4) rfl (by kernel_rfl) (by kernel_rfl) (by kernel_rfl) (fun _ _ _ h => h) (Or.inl ⟨by rfl, ?g5qy4⟩) (by assumption) ?g5qr4
          case g5qy4 => first | (intro w hSw; (try dsimp only at hSw); go_simp; done) | (intro w hSw; (try dsimp only at hSw); go_simp; with_reducible rfl)
          case' g5qr4 => try simp only [Act.put, List.setIfInBounds_toArray, List.set_cons_zero, List.set_cons_succ]
          refine wpAnyH_takeL (i := 5) (v := ?g5qv5) rfl (by kernel_rfl) (by kernel_rfl) (by kernel_rfl) (fun _ _ _ h => h) (Or.inl ⟨by rfl, ?g5qy5⟩) (by assumption) ?g5qr5
          case g5qy5 => first | (intro w hSw; (try dsimp only at hSw); go_simp; done) | (intro w hSw; (try dsimp only at hSw); go_simp; with_reducible rfl)
          case' g5qr5 => try simp only [Act.put, List.setIfInBounds_toArray, List.set_cons_zero, List.set_cons_succ]
          refine wpAnyH_takeL (i := 6) (v := ?g5qv6) rfl (by kernel_rfl) (by kernel_rfl) (by kernel_rfl) (fun _ _ _ h => h) (Or.inl ⟨by rfl, ?g5qy6⟩) (by assumption) ?g5qr6
          case g5qy6 => first | (intro w hSw; (try dsimp only at hSw); go_simp; done) | (intro w hSw; (try dsimp only at hSw); go_simp; with_reducible rfl)
          case' g5qr6 => try simp only [Act.put, List.setIfInBounds_toArray, List.set_cons_zero, List.set_cons_succ]
          refine wpAnyH_takeL (i := 7) (v := ?g5qv7) rfl (by kernel_rfl) (by kernel_rfl) (by kernel_rfl) (fun _ _ _ h => h) (Or.inl ⟨by rfl, ?g5qy7⟩) (by assumption) ?g5qr7
          case g5qy7 => first | (intro w hSw; (try dsimp only at hSw); go_simp; done) | (intro w hSw; (try dsimp only at hSw); go_simp; with_reducible rfl)
          case' g5qr7 => try simp only [Act.put, List.setIfInBounds_toArray, List.set_cons_zero, List.set_cons_succ]
          refine wpAnyH_takeL (i := 8) (v := ?g5qv8) rfl (by kernel_rfl) (by kernel_rfl) (by kernel_rfl) (fun _ _ _ h => h) (Or.inl ⟨by rfl, ?g5qy8⟩) (by assumption) ?g5qr8
          case g5qy8 => first | (intro w hSw; (try dsimp only at hSw); go_simp; done) | (intro w hSw; (try dsimp only at hSw); go_simp; with_reducible rfl)
          case' g5qr8 => try simp only [Act.put, List.setIfInBounds_toArray, List.set_cons_zero, List.set_cons_succ]
          refine wpAnyH_takeL (i := 9) (v := ?g5qv9) rfl (by kernel_rfl) (by kernel_rfl) (by kernel_rfl) (fun _ _ _ h => h) (Or.inl ⟨by rfl, ?g5qy9⟩) (by assumption) ?g5qr9
          case g5qy9 => first | (intro w hSw; (try dsimp only at hSw); go_simp; done) | (intro w hSw; (try dsimp only at hSw); go_simp; with_reducible rfl)
          case' g5qr9 => try simp only [Act.put, List.setIfInBounds_toArray, List.set_cons_zero, List.set_cons_succ]
          refine wpAnyH_takeL (i := 10) (v := ?g5qv10) rfl (by kernel_rfl) (by kernel_rfl) (by kernel_rfl) (fun _ _ _ h => h) (Or.inl ⟨by rfl, ?g5qy10⟩) (by assumption) ?g5qr10
          case g5qy10 => first | (intro w hSw; (try dsimp only at hSw); go_simp; done) | (intro w hSw; (try dsimp only at hSw); go_simp; with_reducible rfl)
          case' g5qr10 => try simp only [Act.put, List.setIfInBounds_toArray, List.set_cons_zero, List.set_cons_succ]
          refine wpAnyH_done (by kernel_rfl) ?_ _
          go_wp2
          first
            | go_roundw
            | refine ⟨?rel, ?measure⟩
          case rel => exact ⟨t + 1, by omega, by go_num, hid HX2.out.drew⟩
          case measure => simp [intOf]; omega
        · obtain rfl : t = m := by omega
          go_wp2
          go_ret
          exact ⟨rfl, HE.out.trans HX2.out⟩
theorem blocksR_len' (ins : List In) (entries : List Nat) (tabs : List (List Nat)) (at_ : List Nat) : (blocksR ins entries tabs at_).1.length ≤ 256 := by
  unfold blocksR
  simp only []
  split
  · simp
  · split
    · simp
    · simp
      omega
set_option maxHeartbeats 4000000 in
theorem cblaw_any (w : World) (A E U B T Q : Option Addr) (n c ne ce nu cu nb cb nt ct nq cq : Nat) (ins : List In) (entries : List Nat) (tabs : List (List Nat)) (at_ : List Nat) (hi : Sl insR w All (.slice A n c) ins) (he : Sl u32R w All (.slice E ne ce) entries)
    (ht : Sl u32sR w All (.slice T nt ct) tabs) (hq : Sl u32R w All (.slice Q nq cq) at_) :
    Calls Try.prog 3 #[.agg #[.slice A n c, .slice E ne ce, .slice U nu cu, .slice B nb cb], .slice T nt ct, .slice Q nq cq] w (OneBool w true) := by
  obtain ⟨W0, hW0⟩ : ∃ W0, w.alloc (.cells #[.slice A n c, .slice E ne ce, .slice U nu cu, .slice B nb cb] 25) = W0 := ⟨_, rfl⟩
  have hE : Ext w W0 := by rw [← hW0]; exact (Ext.refl w).alloc _
  have q0 : W0.cell? ⟨w.heap.size, 0, none⟩ = some (.slice A n c) := by rw [← hW0]; simp [go_sem]
  have q1 : W0.cell? ⟨w.heap.size, 1, none⟩ = some (.slice E ne ce) := by rw [← hW0]; simp [go_sem]
  have q2 : W0.cell? ⟨w.heap.size, 2, none⟩ = some (.slice U nu cu) := by rw [← hW0]; simp [go_sem]
  have q3 : W0.cell? ⟨w.heap.size, 3, none⟩ = some (.slice B nb cb) := by rw [← hW0]; simp [go_sem]
  have HLG := hid (fun W (h : Ext w W) => large_any W A E U B T n c ne ce nu cu nb cb nt ct tabs (ht.ext h))
  have hq9 : nq ≤ 9223372036854775807 := Nat.le_trans hq.cap.1 hq.cap.2
  have HBL := hid (fun W (h : Ext w W) (hn : n ≤ 600) (hne : ne ≤ 600) (htl : ∀ t ∈ tabs, t.length ≤ 100) => cblocks_any W A E U B T Q n c ne ce nu cu nb cb nt ct nq cq ins entries tabs at_ (hi.ext h) (he.ext h) (ht.ext h) (hq.ext h) hn hne hq9 (fun t ht => Nat.le_trans (htl t ht) (by omega)))
  have HRL := hid (fun W (h : Ext w W) (hn : n ≤ 600) (htl : ∀ t ∈ tabs, t.length ≤ 100) => rblocks_any W A E U B T Q n c ne ce nu cu nb cb nt ct nq cq ins entries tabs at_ (hi.ext h) (he.ext h) (ht.ext h) (hq.ext h) hn (fun t ht => Nat.le_trans (htl t ht) (by omega)))
  obtain ⟨G, hG⟩ : ∃ G, largeB n ne nt tabs = G := ⟨_, rfl⟩
  have HG := hid hG
  rw [hG] at HLG
  have HE := hid hE
  clear hi he ht hq hq9 hE hG
  go_enter Try.func3, Try.ntmps3
  go_wp2_with fail
  refine (HLG.out W0 HE.out).mono ?_
  rintro e w1 ⟨rfl, hx1⟩
  have q0 := hx1.cell q0
  have q1 := hx1.cell q1
  have q2 := hx1.cell q2
  have q3 := hx1.cell q3
  have HX1 := hid (HE.out.trans hx1)
  clear hx1 hW0
  cases G with
  | true =>
    go_wp2_with fail
    refine (example_any _).mono ?_
    rintro e wz ⟨rfl, hxz⟩
    have HXZ := hid hxz; clear hxz
    go_wp2
    go_ret
    exact ⟨rfl, HX1.out.trans HXZ.out⟩
  | false =>
    obtain ⟨hs1, hs2, -, hs3⟩ := largeB_small HG.out
    have HB := hid (HBL.out w1 HX1.out hs1 hs2 hs3)
    have HRB := hid (fun W h => HRL.out W h hs1 hs3)
    have HLEN := hid (blocksR_len' ins entries tabs at_)
    clear hs1 hs2 hs3
    obtain ⟨⟨l, er⟩, hl⟩ : ∃ r, blocksR ins entries tabs at_ = r := ⟨_, rfl⟩
    rw [hl] at HB HLEN HRB
    simp only [] at HB HLEN HRB
    clear hl
    go_wp2_with fail
    refine (HB.out).mono ?_
    rintro e w2 ⟨hx2, AL, cL, rfl, hsL⟩
    simp only [] at hsL ⊢
    obtain ⟨N, hN⟩ : ∃ N, l.length = N := ⟨_, rfl⟩
    rw [hN] at hsL HLEN ⊢
    have HN := hid hN
    have HX2 := hid (HX1.out.trans hx2)
    have HSL := hid hsL
    have q0 := hx2.cell q0
    have q1 := hx2.cell q1
    have q2 := hx2.cell q2
    have q3 := hx2.cell q3
    clear hx2 hsL hN
    go_wp2_with fail
    refine (lcode_any _ A E U B n c ne ce nu cu nb cb).mono ?_
    rintro e w3 ⟨rfl, hx3⟩
    have HX3 := hid (HX2.out.trans hx3)
    have HSL3 := hid (HSL.out.ext hx3)
    clear hx3 q0 q1 q2 q3
    go_wp2_with fail
    refine (HRB.out _ HX3.out).mono ?_
    rintro e w4 ⟨hx4, AM, cM, rfl, hsM⟩
    simp only [] at hsM ⊢
    rw [HN.out] at hsM ⊢
    have HX4 := hid (HX3.out.trans hx4)
    have HSL4 := hid (HSL3.out.ext hx4)
    have HSM := hid hsM
    have n1 : ((er : Int) != (er : Int)) = false := by simp
    have n2 : ((N : Int) != (N : Int)) = false := by simp
    have hNb := HLEN.out
    have hcl := HSL4.out.cap
    clear hx4 hsM
    go_wp2
    clear n1 n2
    go_loopw [11] (fun i wr => ∃ j : Nat, j ≤ N ∧ i = .int .i64 j ∧ Hid (Ext w4 wr)) (fun i _ => N - (intOf i).toNat)
    case atStart => exact ⟨0, by omega, rfl, hid (Ext.refl _)⟩
    case round =>
      obtain ⟨j, hj, rfl, HX⟩ := hrel
      by_cases hjN : j < N
      · obtain ⟨x, hx⟩ : ∃ x, l[j]? = some x := ⟨_, List.getElem?_eq_getElem (by have := HN.out; omega)⟩
        obtain ⟨b, off, A1, c1, A2, c2, A3, c3, rfl, h1, h2, h3, -, -, z0, z1, z2, z3, z4⟩ := Sl.bs_at (HSL4.out.ext HX.out) hx
        obtain ⟨b', off', B1, d1, B2, d2, B3, d3, rfl, k1, k2, k3, -, -, v0, v1, v2, v3, v4⟩ := Sl.bs_at (HSM.out.ext HX.out) hx
        have HSA := hid (fun W (h : Ext wr W) => same17_any W A1 A2 A3 B1 B2 B3 c1 c2 c3 d1 d2 d3 x (h1.ext h) (h2.ext h) (h3.ext h) (k1.ext h) (k2.ext h) (k3.ext h))
        obtain ⟨l1, hl1⟩ : ∃ l1, x.ins.length = l1 := ⟨_, rfl⟩
        obtain ⟨l2, hl2⟩ : ∃ l2, x.succ.length = l2 := ⟨_, rfl⟩
        obtain ⟨l3, hl3⟩ : ∃ l3, x.calls.length = l3 := ⟨_, rfl⟩
        rw [hl1] at HSA z2 v2
        rw [hl2] at HSA z3 v3
        rw [hl3] at HSA z4 v4
        have i1 : (j : Int) < (N : Int) := by omega
        have i0 : (0 : Int) ≤ (j : Int) := by omega
        clear hx h1 h2 h3 k1 k2 k3 hl1 hl2 hl3
        go_wp2_with fail
        refine wp_region_held_drew (S := (fun w' => (w'.cell? ⟨b, off + j * 5, none⟩ = some (.int .u32 x.addr) ∧ w'.cell? ⟨b, off + j * 5 + 1, none⟩ = some (.int .u32 x.end_) ∧ w'.cell? ⟨b, off + j * 5 + 2, none⟩ = some (.slice A1 l1 c1) ∧ w'.cell? ⟨b, off + j * 5 + 3, none⟩ = some (.slice A2 l2 c2) ∧ w'.cell? ⟨b, off + j * 5 + 4, none⟩ = some (.slice A3 l3 c3)) ∧ w'.cell? ⟨b', off' + j * 5, none⟩ = some (.int .u32 x.addr) ∧ w'.cell? ⟨b', off' + j * 5 + 1, none⟩ = some (.int .u32 x.end_) ∧ w'.cell? ⟨b', off' + j * 5 + 2, none⟩ = some (.slice B1 l1 d1) ∧ w'.cell? ⟨b', off' + j * 5 + 3, none⟩ = some (.slice B2 l2 d2) ∧ w'.cell? ⟨b', off' + j * 5 + 4, none⟩ = some (.slice B3 l3 d3))) (by kernel_rfl) ⟨⟨z0, z1, z2, z3, z4⟩, v0, v1, v2, v3, v4⟩ (fun hSg6q0 => ?_)
        refine wpAnyH_takeL (i := 0) (v := ?g6qv0) rfl (by kernel_rfl) (by kernel_rfl) (by kernel_rfl) (fun _ _ _ h => h) (Or.inl ⟨by rfl, ?g6qy0⟩) (by assumption) ?g6qr0
        case g6qy0 => first | (intro w hSw; (try dsimp only at hSw); go_simp; done) | (intro w hSw; (try dsimp only at hSw); go_simp; with_reducible rfl)
        case' g6qr0 => try simp only [Act.put, List.setIfInBounds_toArray, List.set_cons_zero, List.set_cons_succ]
        refine wpAnyH_takeL (i := 1) (v := ?g6qv1) rfl (by kernel_rfl) (by kernel_rfl) (by kernel_rfl) (fun _ _ _ h => h) (Or.inl ⟨by rfl, ?g6qy1⟩) (by assumption) ?g6qr1
        case g6qy1 => first | (intro w hSw; (try dsimp only at hSw); go_simp; done) | (intro w hSw; (try dsimp only at hSw); go_simp; with_reducible rfl)
        case' g6qr1 => try simp only [Act.put, List.setIfInBounds_toArray, List.set_cons_zero, List.set_cons_succ]
        refine wpAnyH_takeL (i := 2) (v := ?g6qv2) rfl (by kernel_rfl) (by kernel_rfl) (by kernel_rfl) (fun _ _ _ h => h) (Or.inl ⟨by rfl, ?g6qy2⟩) (by assumption) ?g6qr2
        case g6qy2 => first | (intro w hSw; (try dsimp only at hSw); go_simp; done) | (intro w hSw; (try dsimp only at hSw); go_simp; with_reducible rfl)
        case' g6qr2 => try simp only [Act.put, List.setIfInBounds_toArray, List.set_cons_zero, List.set_cons_succ]
        refine wpAnyH_takeL (i := 3) (v := ?g6qv3) rfl (by kernel_rfl) (by kernel_rfl) (by kernel_rfl) (fun _ _ _ h => h) (Or.inl ⟨by rfl, ?g6qy3⟩) (by assumption) ?g6qr3
        case g6qy3 => first | (intro w hSw; (try dsimp only at hSw); go_simp; done) | (intro w hSw; (try dsimp only at hSw); go_simp; with_reducible rfl)
        case' g6qr3 => try simp only [Act.put, List.setIfInBounds_toArray, List.set_cons_zero, List.set_cons_succ]
        refine wpAnyH_takeL (i := 4) (v := ?g6qv4) rfl (by kernel_rfl) (by kernel_rfl) (by kernel_rfl) (fun _ _ _ h => h) (Or.inl ⟨by rfl, ?g6qy4⟩) (by assumption) ?g6qr4
        case g6qy4 => first | (intro w hSw; (try dsimp only at hSw); go_simp; done) | (intro w hSw; (try dsimp only at hSw); go_simp; with_reducible rfl)
        case' g6qr4 => try simp only [Act.put, List.setIfInBounds_toArray, List.set_cons_zero, List.set_cons_succ]
        refine wpAnyH_takeL (i := 5) (v := ?g6qv5) rfl (by kernel_rfl) (by kernel_rfl) (by kernel_rfl) (fun _ _ _ h => h) (Or.inl ⟨by rfl, ?g6qy5⟩) (by assumption) ?g6qr5
        case g6qy5 => first | (intro w hSw; (try dsimp only at hSw); go_simp; done) | (intro w hSw; (try dsimp only at hSw); go_simp; with_reducible rfl)
        case' g6qr5 => try simp only [Act.put, List.setIfInBounds_toArray, List.set_cons_zero, List.set_cons_succ]
        refine wpAnyH_takeL (i := 6) (v := ?g6qv6) rfl (by kernel_rfl) (by kernel_rfl) (by kernel_rfl) (fun _ _ _ h => h) (Or.inl ⟨by rfl, ?g6qy6⟩) (by assumption) ?g6qr6
        case g6qy6 => first | (intro w hSw; (try dsimp only at hSw); go_simp; done) | (intro w hSw; (try dsimp only at hSw); go_simp; with_reducible rfl)
        case' g6qr6 => try simp only [Act.put, List.setIfInBounds_toArray, List.set_cons_zero, List.set_cons_succ]
        refine wpAnyH_takeL (i := 7) (v := ?g6qv7) rfl (by kernel_rfl) (by kernel_rfl) (by kernel_rfl) (fun _ _ _ h => h) (Or.inl ⟨by rfl, ?g6qy7⟩) (by assumption) ?g6qr7
        case g6qy7 => first | (intro w hSw; (try dsimp only at hSw); go_simp; done) | (intro w hSw; (try dsimp only at hSw); go_simp; with_reducible rfl)
        case' g6qr7 => try simp only [Act.put, List.setIfInBounds_toArray, List.set_cons_zero, List.set_cons_succ]
        refine wpAnyH_ready (rs := [8]) (by kernel_rfl) (by simp) ?_
        refine AllReadyH.consL rfl (fun K hK => ?_) AllReadyH.nil
        go_simp
        go_at_call 14
        refine (HSA.out _ (Ext.refl wr).drew).mono ?_
        rintro e w5 ⟨rfl, hx5⟩
        have HX5 := hid hx5.drew_left
        clear hx5
        refine hK.out _ _ ⟨⟨HX5.out.cell z0, HX5.out.cell z1, HX5.out.cell z2, HX5.out.cell z3, HX5.out.cell z4⟩, HX5.out.cell v0, HX5.out.cell v1, HX5.out.cell v2, HX5.out.cell v3, HX5.out.cell v4⟩ (fun hSg6q1 => ?_)
        clear hK K
        try simp only [Act.put, List.setIfInBounds_toArray, List.set_cons_zero, List.set_cons_succ]
        refine wpAnyH_takeL (i := 9) (v := ?g6qv9) rfl (by kernel_rfl) (by kernel_rfl) (by kernel_rfl) (fun _ _ _ h => h) (Or.inl ⟨by rfl, ?g6qy9⟩) (by assumption) ?g6qr9
        case g6qy9 => first | (intro w hSw; (try dsimp only at hSw); go_simp; done) | (intro w hSw; (try dsimp only at hSw); go_simp; with_reducible rfl)
        case' g6qr9 => try simp only [Act.put, List.setIfInBounds_toArray, List.set_cons_zero, List.set_cons_succ]
        refine wpAnyH_done (by kernel_rfl) ?_ _
        go_wp2
        first
          | go_roundw
          | refine ⟨?rel, ?measure⟩
        case rel => exact ⟨j + 1, by omega, by go_num, hid (HX.out.trans HX5.out)⟩
        case measure => simp [intOf]; omega
      · obtain rfl : j = N := by omega
        have HX9 := hid (HX4.out.trans HX.out)
        go_wp2_with fail
        refine (example_any _).mono ?_
        rintro e wz ⟨rfl, hxz⟩
        have HXZ := hid hxz; clear hxz
        go_wp2
        go_ret
        exact ⟨rfl, HX9.out.trans HXZ.out⟩
end Go.Proofs.Ytolbnhkdpbdhhaa
