/- coverage.Minimize: the closure try. -/
import Derived.Test.YtcddmggefmfkkaaDel
import Derived.Test.YtcddmggefmfkkaaCovE
import Derived.Test.YtcddmggefmfkkaaReg
import Derived.Laws.EntriesVeiled
namespace Go.Proofs.Ytcddmggefmfkkaa
open Go.RowKit Go.Deco
set_option linter.unusedSimpArgs false
set_option linter.unusedVariables false

/-- What a predicate on lists must meet: called it gives P; J k: the state behind k calls; K: the blocks that J looks at; ob: the one among them that it may change. -/
structure FailsIs (g : FuncId) (lb : Array Value) (ob : Option Nat) (K : Nat → Prop) (P : List Nat → Bool) (J : Nat → World → Prop) : Prop where
  enter : ∀ args w, (callFunc g args).run Try.prog w = .ok (.enter g args) w
  call : ∀ (w : World) (k : Nat) (A : Option Addr) (n c : Nat) (l : List Nat), J k w → k < 1000 → Sl u32R w (fun b => some b ≠ ob) (.slice A n c) l → n ≤ 1000 →
    Calls Try.prog g (#[.slice A n c] ++ lb) w fun e w' => e = .returned (.bool (P l)) ∧ J (k + 1) w' ∧ w.grownBy w' ob
  keep : ∀ (k : Nat) (w w' : World), J k w → (∀ b, K b → w'.heap[b]? = w.heap[b]?) → J k w'
  old : ∀ (k : Nat) (w : World) (b : Nat), J k w → K b → b < w.heap.size
  sub : ∀ b, some b = ob → K b

/-- The minimizer's boxes. -/
structure Boxes (bl bf bp : Nat) (ob : Option Nat) (K : Nat → Prop) : Prop where
  d1 : bl ≠ bf
  d2 : bl ≠ bp
  d3 : bf ≠ bp
  o1 : some bl ≠ ob
  o2 : some bf ≠ ob
  o3 : some bp ≠ ob
  k1 : ¬ K bl
  k3 : ¬ K bp
def Off (bl bf bp : Nat) (ob : Option Nat) (b : Nat) : Prop := b ≠ bl ∧ b ≠ bf ∧ b ≠ bp ∧ some b ≠ ob
/-- Nothing else has turned. -/
structure Fr (bl bp : Nat) (ob : Option Nat) (w w' : World) : Prop where
  os : w'.os = w.os
  tape : w'.tape = w.tape
  output : w'.output = w.output
  size : w.heap.size ≤ w'.heap.size
  block : ∀ b, b < w.heap.size → b ≠ bl → b ≠ bp → some b ≠ ob → w'.heap[b]? = w.heap[b]?
section
variable {bl bp : Nat} {ob : Option Nat} {a b c : World}
theorem Fr.refl (w : World) : Fr bl bp ob w w := ⟨rfl, rfl, rfl, Nat.le_refl _, fun _ _ _ _ _ => rfl⟩
theorem Fr.trans (h : Fr bl bp ob a b) (k : Fr bl bp ob b c) : Fr bl bp ob a c :=
  ⟨k.os.trans h.os, k.tape.trans h.tape, k.output.trans h.output, Nat.le_trans h.size k.size, fun i hi h1 h2 h3 => (k.block i (Nat.lt_of_lt_of_le hi h.size) h1 h2 h3).trans (h.block i hi h1 h2 h3)⟩
theorem Fr.of_grown (h : a.grownBy b ob) : Fr bl bp ob a b := ⟨h.os, h.tape, h.output, h.size, fun i hi _ _ h3 => h.block i hi h3⟩
theorem Fr.of_ext (h : Ext a b) : Fr bl bp ob a b := Fr.of_grown (h.grownBy ob)
theorem Fr.setp (w : World) (v : Value) : Fr bl bp ob w (w.setCell ⟨bp, 0, none⟩ v) := ⟨rfl, rfl, rfl, by simp, fun i _ _ h2 _ => Below.heap_setCell _ _ _ i h2⟩
theorem Fr.setl (w : World) (v : Value) : Fr bl bp ob w (w.setCell ⟨bl, 0, none⟩ v) := ⟨rfl, rfl, rfl, by simp, fun i _ h1 _ _ => Below.heap_setCell _ _ _ i h1⟩
end
/-- The minimizer's state: the present list, the calls left. -/
structure Mz (bl bf bp : Nat) (ob : Option Nat) (g : FuncId) (lb : Array Value) (J : Nat → World → Prop) (w : World) (A : Option Addr) (n c : Nat) (L : List Nat) (left : Nat) : Prop where
  cl : w.cell? ⟨bl, 0, none⟩ = some (.int .i64 left)
  fl : w.frozen? ⟨bl, 0, none⟩ = false
  cf : w.cell? ⟨bf, 0, none⟩ = some (.func (.func g) #[] lb)
  cp : w.cell? ⟨bp, 0, none⟩ = some (.slice A n c)
  fp : w.frozen? ⟨bp, 0, none⟩ = false
  sl : Sl u32R w (Off bl bf bp ob) (.slice A n c) L
  le : left ≤ 1000
  j : J (1000 - left) w

/-- What try does. -/
def TryPost (bl bf bp : Nat) (ob : Option Nat) (g : FuncId) (lb : Array Value) (J : Nat → World → Prop) (w : World) (A : Option Addr) (n c : Nat) (L : List Nat) (A' : Option Addr) (n' c' : Nat) (X : List Nat) (left : Nat) (r : Bool) (e : Ending) (w' : World) : Prop :=
  e = .returned (.bool r) ∧ Fr bl bp ob w w' ∧ (r = true → Mz bl bf bp ob g lb J w' A' n' c' X left) ∧ (r = false → Mz bl bf bp ob g lb J w' A n c L left)

set_option maxRecDepth 100000 in
set_option maxHeartbeats 4000000 in
theorem try_some (bl bf bp : Nat) (ob : Option Nat) (K : Nat → Prop) (g : FuncId) (lb : Array Value) (P : List Nat → Bool) (J : Nat → World → Prop) (hB : Boxes bl bf bp ob K) (hF : FailsIs g lb ob K P J) (w : World) (A : Option Addr) (n c : Nat) (L : List Nat) (left : Nat) (hM : Mz bl bf bp ob g lb J w A n c L (left + 1))
    (A' : Option Addr) (n' c' : Nat) (X : List Nat) (hX : Sl u32R w (Off bl bf bp ob) (.slice A' n' c') X) (hn : n' ≤ 1000) :
    Calls Try.prog 40 #[.slice A' n' c', .pointer (some ⟨bl, 0, none⟩), .pointer (some ⟨bf, 0, none⟩), .pointer (some ⟨bp, 0, none⟩)] w (TryPost bl bf bp ob g lb J w A n c L A' n' c' X left (P X)) := by
  have cl := hM.cl
  have fl := hM.fl
  have hne : ¬ (((left + 1 : Nat) : Int) = 0) := by omega
  have hle := hM.le
  have hw : IntKind.i64.wrap (((left + 1 : Nat) : Int) - 1) = (left : Int) := by
    rw [IntWalk.i64_in _ (by omega)]
    omega
  obtain ⟨z, hz⟩ : ∃ z : Int, ((left + 1 : Nat) : Int) = z := ⟨_, rfl⟩
  rw [hz] at cl hne hw
  have HM := hid hM
  have HX := hid hX
  have HF := hid hF
  have HB := hid hB
  obtain ⟨r, hr⟩ : ∃ r, P X = r := ⟨_, rfl⟩
  rw [hr]
  have HR := hid hr
  clear hM hX hF hB hr hz
  have hen := HF.out.enter
  go_enter Try.func40, Try.ntmps40
  go_wp2_with fail
  obtain ⟨W1, hW1⟩ : ∃ W1, w.setCell ⟨bl, 0, none⟩ (.int .i64 left) = W1 := ⟨_, rfl⟩
  have hF1 : Fr bl bp ob w W1 := by
    rw [← hW1]
    exact Fr.setl _ _
  have hcf : W1.cell? ⟨bf, 0, none⟩ = some (.func (.func g) #[] lb) := by
    rw [← hW1]
    exact (World.cell?_setCell_other _ _ _ _ (fun e => by injection e with e; exact HB.out.d1 e)).trans HM.out.cf
  have hcl : W1.cell? ⟨bl, 0, none⟩ = some (.int .i64 left) := by
    rw [← hW1]
    exact World.cell?_setCell_same' _ _ _ (by rw [cl]; rfl)
  have hcp : W1.cell? ⟨bp, 0, none⟩ = some (.slice A n c) := by
    rw [← hW1]
    exact (World.cell?_setCell_other _ _ _ _ (fun e => by injection e with e; exact HB.out.d2 e)).trans HM.out.cp
  have hfr : ∀ a, W1.frozen? a = w.frozen? a := fun a => by rw [← hW1, World.frozen?_setCell]
  have hsx : Sl u32R W1 (Off bl bf bp ob) (.slice A' n' c') X := HX.out.keep fun b hb hc => by
    rw [← hW1]
    exact Below.heap_setCell _ _ _ b hb.1
  have hsl : Sl u32R W1 (Off bl bf bp ob) (.slice A n c) L := HM.out.sl.keep fun b hb hc => by
    rw [← hW1]
    exact Below.heap_setCell _ _ _ b hb.1
  have hj : J (1000 - (left + 1)) W1 := HF.out.keep _ _ _ HM.out.j fun b hb => by
    rw [← hW1]
    exact Below.heap_setCell _ _ _ b (fun e => HB.out.k1 (by rw [← show b = bl from e]; exact hb))
  rw [hW1]
  have HF1 := hid hF1
  have HCL := hid hcl
  have HCP := hid hcp
  have HFR := hid hfr
  have HSX := hid hsx
  have HSL := hid hsl
  have HJ := hid hj
  have HFL := hid fl
  clear hW1 hF1 hcl hcp hfr hsx hsl hj cl fl
  refine wp_region_held_drew (S := (fun w' => w'.cell? ⟨bf, 0, none⟩ = some (.func (.func g) #[] lb))) (by kernel_rfl) hcf (fun hSR0 => ?_)
  refine wpAnyH_takeL (i := 0) (v := ?Rv0) rfl (by kernel_rfl) (by kernel_rfl) (by kernel_rfl) (fun _ _ _ h => h) (Or.inl ⟨by rfl, ?Ry0⟩) (by assumption) ?Rr0
  case Ry0 => first | (intro w hSw; (try dsimp only at hSw); go_simp; done) | (intro w hSw; (try dsimp only at hSw); go_simp; with_reducible rfl)
  case' Rr0 => try simp only [Act.put, List.setIfInBounds_toArray, List.set_cons_zero, List.set_cons_succ]
  refine wpAnyH_takeL (i := 1) (v := ?Rv1) rfl (by kernel_rfl) (by kernel_rfl) (by kernel_rfl) (fun _ _ _ h => h) (Or.inl ⟨by rfl, ?Ry1⟩) (by assumption) ?Rr1
  case Ry1 => first | (intro w hSw; (try dsimp only at hSw); go_simp; done) | (intro w hSw; (try dsimp only at hSw); go_simp; with_reducible rfl)
  case' Rr1 => try simp only [Act.put, List.setIfInBounds_toArray, List.set_cons_zero, List.set_cons_succ]
  refine wpAnyH_ready (rs := [2]) (by kernel_rfl) (by simp) ?_
  refine AllReadyH.consL rfl (fun K hK => ?_) AllReadyH.nil
  go_simp
  go_at_call 39
  refine (clone32_any _ _ A' n' c' X (HSX.out.ext ((Ext.refl _).drew)) (by omega)).mono ?_
  rintro e w2 ⟨hx2, A2, c2, rfl, ho2⟩
  have HX2 := hid hx2.drew_left
  have HO2 := hid ho2
  clear hx2 ho2
  refine hK.out _ _ (HX2.out.cell hcf) (fun hSR1 => ?_)
  clear hK K
  try simp only [Act.put, List.setIfInBounds_toArray, List.set_cons_zero, List.set_cons_succ]
  refine wpAnyH_ready (rs := [3]) (by kernel_rfl) (by simp) ?_
  refine AllReadyH.consL rfl (fun K hK => ?_) AllReadyH.nil
  go_simp
  refine (HF.out.call w2 (1000 - (left + 1)) A2 X.length c2 X (HF.out.keep _ _ _ HJ.out (fun b hb => HX2.out.block (HF.out.old _ _ _ HJ.out hb))) (by omega) (HO2.out.num_sl (fun k hk e => by have := HF.out.old _ _ k HJ.out (HF.out.sub _ e); simp at hk; omega)) (by have := HX.out.len; omega)).mono ?_
  rintro e w3 ⟨rfl, hj3, hg3⟩
  rw [HR.out]
  have HJ3 := hid hj3
  have HG3 := hid hg3
  have HK := hid (show ∀ b, b < W1.heap.size → some b ≠ ob → w3.heap[b]? = W1.heap[b]? from fun b h1 h2 => (hg3.block b (Nat.lt_of_lt_of_le h1 HX2.out.size) h2).trans (HX2.out.block h1))
  clear hj3 hg3
  refine hK.out _ _ ((World.cell?_of_block (a := ⟨bf, 0, none⟩) (HK.out bf (World.block_lt_of_cell? _ _ hcf) HB.out.o2)).trans hcf) (fun hSR2 => ?_)
  clear hK K
  try simp only [Act.put, List.setIfInBounds_toArray, List.set_cons_zero, List.set_cons_succ]
  refine wpAnyH_takeL (i := 4) (v := ?Rv4) rfl (by kernel_rfl) (by kernel_rfl) (by kernel_rfl) (fun _ _ _ h => h) (Or.inl ⟨by rfl, ?Ry4⟩) (by assumption) ?Rr4
  case Ry4 => first | (intro w hSw; (try dsimp only at hSw); go_simp; done) | (intro w hSw; (try dsimp only at hSw); go_simp; with_reducible rfl)
  case' Rr4 => try simp only [Act.put, List.setIfInBounds_toArray, List.set_cons_zero, List.set_cons_succ]
  refine wpAnyH_done (by kernel_rfl) ?_ _
  have hKl := HK.out bl (World.block_lt_of_cell? _ _ HCL.out) HB.out.o1
  have hKp := HK.out bp (World.block_lt_of_cell? _ _ HCP.out) HB.out.o3
  have hKf := HK.out bf (World.block_lt_of_cell? _ _ hcf) HB.out.o2
  have hcp := (World.cell?_of_block (a := ⟨bp, 0, none⟩) hKp).trans HCP.out
  have hfp := (World.frozen?_of_block (a := ⟨bp, 0, none⟩) hKp).trans ((HFR.out _).trans HM.out.fp)
  have hsx := HSX.out.keep (w' := w3) fun b hb hc => HK.out b hc.lt hb.2.2.2
  have hsl := HSL.out.keep (w' := w3) fun b hb hc => HK.out b hc.lt hb.2.2.2
  have hfr3 : Fr bl bp ob w w3 := HF1.out.trans ((Fr.of_ext HX2.out).trans (Fr.of_grown HG3.out))
  have hjj : J (1000 - left) w3 := by
    have := HJ3.out
    rw [show 1000 - (left + 1) + 1 = 1000 - left by omega] at this
    exact this
  have HSX3 := hid hsx
  have HSL3 := hid hsl
  have HFR3 := hid hfr3
  have HJJ := hid hjj
  have HCL3 := hid ((World.cell?_of_block (a := ⟨bl, 0, none⟩) hKl).trans HCL.out)
  have HFL3 := hid ((World.frozen?_of_block (a := ⟨bl, 0, none⟩) hKl).trans ((HFR.out _).trans HFL.out))
  have HCF3 := hid ((World.cell?_of_block (a := ⟨bf, 0, none⟩) hKf).trans hcf)
  have HCP3 := hid hcp
  clear hKl hKp hKf hsx hsl hfr3 hjj hcf
  cases r with
  | false =>
    go_wp2
    go_ret
    exact ⟨rfl, HFR3.out, fun h => (by cases h), fun _ => ⟨HCL3.out, HFL3.out, HCF3.out, HCP3.out, hfp, HSL3.out, by omega, HJJ.out⟩⟩
  | true =>
    go_wp2
    go_ret
    have e1 : ∀ b, b ≠ bp → (w3.setCell ⟨bp, 0, none⟩ (.slice A' n' c')).heap[b]? = w3.heap[b]? := fun b h => Below.heap_setCell _ _ _ b h
    refine ⟨rfl, HFR3.out.trans (Fr.setp _ _), fun _ => ⟨?_, ?_, ?_, ?_, ?_, ?_, by omega, ?_⟩, fun h => (by cases h)⟩
    · exact (World.cell?_of_block (a := ⟨bl, 0, none⟩) (e1 bl HB.out.d2)).trans HCL3.out
    · rw [World.frozen?_setCell]; exact HFL3.out
    · exact (World.cell?_of_block (a := ⟨bf, 0, none⟩) (e1 bf HB.out.d3)).trans HCF3.out
    · exact World.cell?_setCell_same' _ _ _ (by rw [HCP3.out]; rfl)
    · rw [World.frozen?_setCell]; exact hfp
    · exact HSX3.out.keep fun b hb _ => e1 b hb.2.2.1
    · exact HF.out.keep _ _ _ HJJ.out fun b hb => e1 b (fun e => HB.out.k3 (by rw [← show b = bp from e]; exact hb))
end Go.Proofs.Ytcddmggefmfkkaa
