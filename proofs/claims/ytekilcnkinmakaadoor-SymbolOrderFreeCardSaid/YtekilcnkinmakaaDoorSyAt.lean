/- A symbol in a box; decompilerref06: Find. -/
import Derived.Test.YtekilcnkinmakaaDoorSymA
namespace Go.Proofs.YtekilcnkinmakaaDoor
open Go.RowKit Go.Deco
set_option linter.unusedSimpArgs false
set_option linter.unusedVariables false

/-- A symbol in the three cells of a box. -/
def SyAt (w : World) (b : Nat) (s : Sy) : Prop :=
  w.cell? ⟨b, 0, none⟩ = some (.string s.name) ∧ w.cell? ⟨b, 1, none⟩ = some (.int .u32 s.addr) ∧ w.cell? ⟨b, 2, none⟩ = some (.int .i64 s.kind) ∧ ∀ i, w.frozen? ⟨b, i, none⟩ = false
def put3 (w : World) (b : Nat) (s : Sy) : World := ((w.setCell ⟨b, 0, none⟩ (.string s.name)).setCell ⟨b, 1, none⟩ (.int .u32 s.addr)).setCell ⟨b, 2, none⟩ (.int .i64 s.kind)
theorem SyAt.lt {w : World} {b : Nat} {s : Sy} (h : SyAt w b s) : b < w.heap.size := World.block_lt_of_cell? _ _ h.1
theorem SyAt.ext {w w' : World} {b : Nat} {s : Sy} (h : SyAt w b s) (he : Ext w w') : SyAt w' b s :=
  ⟨he.cell h.1, he.cell h.2.1, he.cell h.2.2.1, fun i => (he.frozen (p := ⟨b, i, none⟩) h.lt).trans (h.2.2.2 i)⟩
theorem SyAt.new (w : World) (s : Sy) (t : TypeId) : SyAt (w.alloc (.cells #[.string s.name, .int .u32 s.addr, .int .i64 s.kind] t)) w.heap.size s :=
  ⟨by simp [go_sem], by simp [go_sem], by simp [go_sem], fun i => by simp [go_sem]⟩
theorem SyAt.put {w : World} {b : Nat} {x s : Sy} (h : SyAt w b x) : SyAt (put3 w b s) b s := by
  obtain ⟨h0, h1, h2, h3⟩ := h
  refine ⟨?_, ?_, ?_, fun i => ?_⟩
  · simp [put3, World.cell?_setCell_same, World.cell?_setCell_other, h0, h1, h2]
  · simp [put3, World.cell?_setCell_same, World.cell?_setCell_other, h0, h1, h2]
  · simp [put3, World.cell?_setCell_same, World.cell?_setCell_other, h0, h1, h2]
  · simp [put3, h3]
theorem SyAt.putO {w : World} {b c : Nat} {x s : Sy} (h : SyAt w b x) (hne : b ≠ c) : SyAt (put3 w c s) b x := by
  obtain ⟨h0, h1, h2, h3⟩ := h
  refine ⟨?_, ?_, ?_, fun i => ?_⟩
  · simp [put3, World.cell?_setCell_other, h0, hne, Ne.symm hne]
  · simp [put3, World.cell?_setCell_other, h1, hne, Ne.symm hne]
  · simp [put3, World.cell?_setCell_other, h2, hne, Ne.symm hne]
  · simp [put3, h3]
theorem ext_put3 {w0 w : World} {b : Nat} {s : Sy} (h : Ext w0 w) (hb : w0.heap.size ≤ b) : Ext w0 (put3 w b s) := ((h.setCell hb _).setCell hb _).setCell hb _
theorem sl_put3 {E : Type} {R : Rep E} {w : World} {S : Nat → Prop} {v : Value} {l : List E} {b : Nat} {s : Sy} (h : Sl R w S v l) (hS : ∀ c, S c → c ≠ b) : Sl R (put3 w b s) S v l :=
  h.keep fun c hc _ => by rw [put3, Below.heap_setCell _ _ _ c (hS c hc), Below.heap_setCell _ _ _ c (hS c hc), Below.heap_setCell _ _ _ c (hS c hc)]
end Go.Proofs.YtekilcnkinmakaaDoor

namespace Go.Proofs.YtekilcnkinmakaaDoor
open Go.RowKit Go.Deco
set_option linter.unusedSimpArgs false
set_option linter.unusedVariables false

set_option maxRecDepth 100000 in
set_option maxHeartbeats 1000000 in
theorem find6_any (w : World) (A : Option Addr) (n c : Nat) (l : List Sy) (hl : Sl symR w All (.slice A n c) l) (nm : ByteArray) :
    Calls Tryd.prog 24 #[.slice A n c, .string nm] w (SyIs w (findSy l nm.data.toList)) := by
  have hln := hl.len
  obtain ⟨hnc, hcm⟩ := hl.cap
  obtain ⟨o, ho⟩ : ∃ o, findSy l nm.data.toList = o := ⟨_, rfl⟩
  rw [ho]
  have HO := hid ho
  obtain ⟨W0, hW0⟩ : ∃ W0, w.alloc (.cells #[.string ⟨#[]⟩, .int .u32 0, .int .i64 0] 27) = W0 := ⟨_, rfl⟩
  have hE0 : Ext w W0 := by rw [← hW0]; exact (Ext.refl w).alloc _
  have hr0 : SyAt W0 w.heap.size Sy.zero := by
    rw [← hW0]
    exact SyAt.new w Sy.zero 27
  have HE0 := hid hE0
  have HR0 := hid hr0
  have HL := hid (hl.ext hE0)
  have HLN := hid hln
  clear ho hE0 hr0 hl hln
  go_enter Tryd.func24, Tryd.ntmps24
  go_wp2
  clear hW0
  go_loop [6] (fun i => ∃ k : Nat, k ≤ n ∧ i = .int .i64 k ∧ Hid (∀ x ∈ l.take k, x.key ≠ nm.data.toList)) (fun i => n - (intOf i).toNat)
  case atStart => exact ⟨0, by omega, rfl, hid (by simp)⟩
  case round =>
    obtain ⟨k, hk, rfl, HN⟩ := hrel
    obtain ⟨r0, r1, r2, r3⟩ := HR0.out
    by_cases h1 : k < n
    · obtain ⟨s, hs⟩ : ∃ s, l[k]? = some s := ⟨_, List.getElem?_eq_getElem (by have := HLN.out; omega)⟩
      obtain ⟨b, off, rfl, c0, c1, c2, -, -, -, -⟩ := Sl.sym_at HL.out hs
      have HK := hid hs
      clear hs
      by_cases h2 : s.key = nm.data.toList
      · have hb : (s.name.toList == nm.toList) = true := by rw [str_eq]; exact decide_eq_true h2
        have hfo : o = some s := by rw [← HO.out]; exact find_hit HK.out h2 HN.out
        subst hfo
        clear h2
        go_wp2
        refine bodyPost_ret (v := .tuple #[syVal s, .bool true]) (by simp [results, Tryd.results24, go_sem, World.cell?_setCell_same, World.cell?_setCell_other, r0, r1, r2, syVal]) rfl ?_
        exact ⟨ext_put3 HE0.out (Nat.le_refl _), rfl⟩
      · have hb : (s.name.toList == nm.toList) = false := by rw [str_eq]; exact decide_eq_false h2
        have HN2 := hid (show ∀ x ∈ l.take (k + 1), x.key ≠ nm.data.toList by
          intro x hx
          rw [take_snoc' HK.out, List.mem_append] at hx
          rcases hx with hx | hx
          · exact HN.out x hx
          · simp at hx; rw [hx]; exact h2)
        clear h2
        go_wp2
        first
          | go_round
          | refine ⟨?rel, ?measure⟩
        case rel => exact ⟨k + 1, by omega, by go_num, HN2⟩
        case measure => simp [intOf]; omega
    · obtain rfl : k = n := by omega
      have hfo : o = none := by
        rw [← HO.out]
        refine find_none fun x hx => HN.out x ?_
        rw [List.take_of_length_le (by have := HLN.out; omega)]
        exact hx
      subst hfo
      go_wp2
      refine bodyPost_ret (v := .tuple #[syVal Sy.zero, .bool false]) (by simp [results, Tryd.results24, go_sem, World.cell?_setCell_same, World.cell?_setCell_other, r0, r1, r2, syVal, Sy.zero]) rfl ?_
      exact ⟨ext_put3 (s := Sy.zero) HE0.out (Nat.le_refl _), rfl⟩
end Go.Proofs.YtekilcnkinmakaaDoor
