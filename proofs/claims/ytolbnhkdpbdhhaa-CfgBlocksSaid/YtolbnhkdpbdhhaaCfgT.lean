/- decompilerref11.At; decompilerref17: has, first, targets. -/
import Derived.Test.YtolbnhkdpbdhhaaCfgR
namespace Go.Proofs.Ytolbnhkdpbdhhaa
open Go.RowKit Go.Deco
set_option linter.unusedSimpArgs false
set_option linter.unusedVariables false

theorem firstIn_none {l : List In} {a : Nat} (h : ∀ y ∈ l, y.addr ≠ a) : firstIn l a = none := by
  unfold firstIn
  rw [List.find?_eq_none]
  intro x hx
  simpa using h x hx
theorem firstIn_hit {l : List In} {a k : Nat} {i : In} (h : ∀ y ∈ l.take k, y.addr ≠ a) (hk : l[k]? = some i) (hi : i.addr = a) : firstIn l a = some i := by
  have e : l = l.take k ++ i :: l.drop (k + 1) := by rw [← drop_cons' hk, List.take_append_drop]
  have h1 := firstIn_none h
  unfold firstIn at *
  rw [e, List.find?_append, h1]
  simp [hi]

set_option maxRecDepth 100000 in
set_option maxHeartbeats 4000000 in
theorem at_any (w : World) (A : Option Addr) (n c : Nat) (l : List In) (hl : Sl insR w All (.slice A n c) l) (a : Nat) :
    Calls Try.prog 58 #[.slice A n c, .int .u32 a] w fun e w' => e = .returned (.tuple #[inV ((firstIn l a).getD In.zero), .bool (firstIn l a).isSome]) ∧ Ext w w' := by
  obtain ⟨W0, hW0⟩ : ∃ W0, w.alloc (.cells #[.int .u32 0, .int .u32 0, .int .i64 0, .int .i64 0, .int .i64 0, .int .i64 0, .int .i64 0, .int .i64 0, .int .i64 0] 61) = W0 := ⟨_, rfl⟩
  have hE : Ext w W0 := by rw [← hW0]; exact (Ext.refl w).alloc _
  have hB : Box9 W0 w.heap.size In.zero := by rw [← hW0]; exact Box9.new w In.zero _
  have hf : ∀ j, W0.frozen? ⟨w.heap.size, j, none⟩ = false := fun j => by rw [← hW0]; simp [go_sem]
  obtain ⟨z0, z1, z2, z3, z4, z5, z6, z7, z8⟩ := hB
  have HLN := hid hl.len
  have hcap := hl.cap
  have HS := hid (hl.ext hE)
  have HE := hid hE
  obtain ⟨r, hr⟩ : ∃ r, firstIn l a = r := ⟨_, rfl⟩
  rw [hr]
  have HR := hid hr
  clear hr hl hE
  go_enter Try.func58, Try.ntmps58
  go_wp2
  clear hW0
  go_loop [6] (fun i => ∃ k : Nat, k ≤ n ∧ i = .int .i64 k ∧ Hid (∀ y ∈ l.take k, y.addr ≠ a)) (fun i => n - (intOf i).toNat)
  case atStart => exact ⟨0, by omega, rfl, hid (by simp)⟩
  case round =>
    obtain ⟨k, hk, rfl, ha⟩ := hrel
    by_cases h1 : k < n
    · obtain ⟨i, hi⟩ : ∃ i, l[k]? = some i := ⟨_, List.getElem?_eq_getElem (by have := HLN.out; omega)⟩
      obtain ⟨b, off, rfl, hok, c0, c1, c2, c3, c4, c5, c6, c7, c8⟩ := Sl.in_at HS.out hi
      have HI := hid hi
      clear hi
      by_cases h2 : i.addr = a
      · have HR2 : Hid (r = some i) := hid (HR.out.symm.trans (firstIn_hit ha.out HI.out h2))
        have n1 : ((i.addr : Int) == (a : Int)) = true := by simp; omega
        clear h2
        go_wp2
        obtain rfl := HR2.out
        refine bodyPost_ret (v := .tuple #[inV i, .bool true]) (by simp [results, Try.results58, go_sem, World.cell?_setCell_same, World.cell?_setCell_other, inV, z0, z1, z2, z3, z4, z5, z6, z7, z8]) rfl ⟨rfl, ?_⟩
        have hle : w.heap.size ≤ w.heap.size := Nat.le_refl _
        repeat (refine Ext.setCell ?_ hle _)
        exact HE.out
      · have n1 : ((i.addr : Int) == (a : Int)) = false := by simp; omega
        have H2 := hid h2
        clear h2
        go_wp2
        go_round
        case rel => exact ⟨k + 1, by omega, by go_num, hid (by
          intro z hz
          rw [take_snoc' HI.out] at hz
          rcases List.mem_append.1 hz with hz | hz
          · exact ha.out z hz
          · rw [List.mem_singleton] at hz
            subst hz
            exact H2.out)⟩
        case measure => simp [intOf]; omega
    · obtain rfl : k = n := by omega
      have HR2 : Hid (r = none) := hid (by
        have h := ha.out
        rw [List.take_of_length_le (by have := HLN.out; omega)] at h
        exact HR.out.symm.trans (firstIn_none h))
      go_wp2
      obtain rfl := HR2.out
      refine bodyPost_ret (v := .tuple #[inV In.zero, .bool false]) (by simp [results, Try.results58, go_sem, World.cell?_setCell_same, World.cell?_setCell_other, inV, In.zero, z0, z1, z2, z3, z4, z5, z6, z7, z8]) rfl ⟨rfl, ?_⟩
      have hle : w.heap.size ≤ w.heap.size := Nat.le_refl _
      repeat (refine Ext.setCell ?_ hle _)
      exact HE.out

set_option maxRecDepth 100000 in
set_option maxHeartbeats 4000000 in
theorem rhas_any (w : World) (A E U B : Option Addr) (n c ne ce nu cu nb cb : Nat) (l : List In) (hl : Sl insR w All (.slice A n c) l) (a : Nat) :
    Calls Try.prog 34 #[.agg #[.slice A n c, .slice E ne ce, .slice U nu cu, .slice B nb cb], .int .u32 a] w fun e w' => e = .returned (.bool (hasIn l a)) ∧ Ext w w' := by
  obtain ⟨W0, hW0⟩ : ∃ W0, w.alloc (.cells #[.slice A n c, .slice E ne ce, .slice U nu cu, .slice B nb cb] 36) = W0 := ⟨_, rfl⟩
  have hE : Ext w W0 := by rw [← hW0]; exact (Ext.refl w).alloc _
  have q0 : W0.cell? ⟨w.heap.size, 0, none⟩ = some (.slice A n c) := by rw [← hW0]; simp [go_sem]
  have HE := hid hE
  have hat := at_any W0 A n c l (hl.ext hE) a
  have e : hasIn l a = (firstIn l a).isSome := rfl
  rw [e]
  obtain ⟨r, hr⟩ : ∃ r, firstIn l a = r := ⟨_, rfl⟩
  rw [hr] at hat ⊢
  have HAT := hid hat
  clear hE hat e hr hl
  go_enter Try.func34, Try.ntmps34
  go_wp2_with fail
  clear hW0 q0
  refine (HAT.out).mono ?_
  rintro e w1 ⟨rfl, hx1⟩
  have HX1 := hid (HE.out.trans hx1)
  clear hx1 HAT
  unfold inV
  obtain ⟨i, hi⟩ : ∃ i, r.getD In.zero = i := ⟨_, rfl⟩
  obtain ⟨b, hb⟩ : ∃ b, r.isSome = b := ⟨_, rfl⟩
  rw [hi, hb]
  have HBB := hid hb
  clear hi hb
  go_wp2
  go_ret
  obtain rfl := HBB.out
  exact ⟨rfl, HX1.out.alloc _⟩

/-- Whether no instruction ahead has its address. -/
def firstB (l : List In) (k : Nat) : Bool := match l[k]? with | none => false | some i => (l.take k).all fun x => decide (x.addr ≠ i.addr)

set_option maxRecDepth 100000 in
set_option maxHeartbeats 4000000 in
theorem rtargets_any (S : Nat → Prop) (w : World) (T Q : Option Addr) (nt ct nq cq : Nat) (tabs : List (List Nat)) (at_ : List Nat) (ht : Sl u32sR w All (.slice T nt ct) tabs) (hq : Sl u32R w All (.slice Q nq cq) at_) (i : In) (hi : InOk i) :
    Calls Try.prog 37 #[inV i, .slice T nt ct, .slice Q nq cq] w fun e w' => Ext w w' ∧ ∃ A c, e = .returned (.slice A (tgtI tabs at_ i).length c) ∧ Sl u32R w' All (.slice A (tgtI tabs at_ i).length c) (tgtI tabs at_ i) := by
  have hid1 := rind_any
  have hta := rtable_any
  obtain ⟨W0, hW0⟩ : ∃ W0, w.alloc (.cells #[.int .u32 i.addr, .int .u32 i.imm, .int .i64 i.op, .int .i64 i.form, .int .i64 i.width, .int .i64 i.cc, .int .i64 i.a, .int .i64 i.b, .int .i64 i.size] 61) = W0 := ⟨_, rfl⟩
  have hE : Ext w W0 := by rw [← hW0]; exact (Ext.refl w).alloc _
  have hB : Box9 W0 w.heap.size i := by rw [← hW0]; exact Box9.new w i _
  have HE := hid hE
  obtain ⟨c0, c1, c2, c3, c4, c5, c6, c7, c8⟩ := hB
  have e : inV i = .agg #[.int .u32 i.addr, .int .u32 i.imm, .int .i64 i.op, .int .i64 i.form, .int .i64 i.width, .int .i64 i.cc, .int .i64 i.a, .int .i64 i.b, .int .i64 i.size] := rfl
  rw [e]
  clear e hE
  have HIN := hid (hid1 W0 i)
  have HTA := hid (fun W (hE : Ext w W) => hta All W T Q nt ct nq cq tabs at_ (ht.ext hE) (hq.ext hE) i.addr)
  obtain ⟨L, hL⟩ : ∃ L, tgtI tabs at_ i = L := ⟨_, rfl⟩
  rw [hL]
  have HL := hid hL
  have HI := hid hi.2.1
  clear hid1 hta hL ht hq hi
  go_enter Try.func37, Try.ntmps37
  by_cases z20 : i.op = 20
  · have HV : Hid (L = [i.imm]) := hid (by rw [← HL.out]; simp [tgtI, z20])
    rw [z20] at c2
    clear z20
    go_wp2
    go_ret
    obtain rfl := HV.out
    refine ⟨HE.out.alloc _, some ⟨W0.heap.size, 0, none⟩, 1, rfl, ?_⟩
    exact sl_lit W0 [i.imm] (by simpa using HI.out) (by simp [maxLen]) _
  · have n20 : (i.op == 20) = false := by simpa using z20
    obtain ⟨d, hd⟩ : ∃ d, indI i = d := ⟨_, rfl⟩
    rw [hd] at HIN
    have HZ := hid z20
    have HD := hid hd
    clear z20 hd
    go_wp2_with fail
    refine (HIN.out).mono ?_
    rintro e w1 ⟨rfl, hx1⟩
    have HX1 := hid (HE.out.trans hx1)
    have c0 := hx1.cell c0
    clear hx1 hW0 c1 c2 c3 c4 c5 c6 c7 c8
    cases d with
    | true =>
      have HV : Hid (L = (tabOf tabs at_ i.addr).getD []) := hid (by
        have h := HD.out
        unfold indI at h
        have h2 : i.op = 21 ∨ i.op = 22 := by simpa using h
        rw [← HL.out]
        simp [tgtI, HZ.out, h2])
      go_wp2_with fail
      refine (HTA.out w1 HX1.out).mono ?_
      rintro e w2 ⟨hx2, A, c, rfl, hs⟩
      have hv := HV.out
      rw [← hv] at hs ⊢
      have HS := hid (hs.ext hx2)
      have HX2 := hid (HX1.out.trans hx2)
      clear hx2 hs hv c0
      go_wp2
      go_ret
      exact ⟨HX2.out, A, c, rfl, HS.out⟩
    | false =>
      have HV : Hid (L = []) := hid (by
        have h := HD.out
        unfold indI at h
        have h2 : ¬ (i.op = 21 ∨ i.op = 22) := by simpa using h
        rw [← HL.out]
        simp [tgtI, HZ.out, h2])
      clear c0
      go_wp2
      go_ret
      obtain rfl := HV.out
      exact ⟨HX1.out, none, 0, rfl, Sl.nil⟩
end Go.Proofs.Ytolbnhkdpbdhhaa
