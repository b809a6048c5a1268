/- decompilerref17: ends, indirect, table, in, targets; decompilerref11.At; has, first. -/
import Derived.Test.YtolbnhkdpbdhhaaCfgB
namespace Go.Proofs.Ytolbnhkdpbdhhaa
open Go.RowKit Go.Deco
set_option linter.unusedSimpArgs false
set_option linter.unusedVariables false
def indI (i : In) : Bool := decide (i.op = 21) || decide (i.op = 22)

set_option maxRecDepth 100000 in
set_option maxHeartbeats 4000000 in
theorem rends_any (w : World) (i : In) : Calls Try.prog 39 #[inV i] w fun e w' => e = .returned (.bool (stopsI i)) ∧ Ext w w' := by
  obtain ⟨W0, hW0⟩ : ∃ W0, w.alloc (.cells #[.int .u32 i.addr, .int .u32 i.imm, .int .i64 i.op, .int .i64 i.form, .int .i64 i.width, .int .i64 i.cc, .int .i64 i.a, .int .i64 i.b, .int .i64 i.size] 61) = W0 := ⟨_, rfl⟩
  have hE : Ext w W0 := by rw [← hW0]; exact (Ext.refl w).alloc _
  have hB : Box9 W0 w.heap.size i := by rw [← hW0]; exact Box9.new w i _
  have HE := hid hE
  have HB := hid hB
  obtain ⟨c0, c1, c2, c3, c4, c5, c6, c7, c8⟩ := hB
  have e : inV i = .agg #[.int .u32 i.addr, .int .u32 i.imm, .int .i64 i.op, .int .i64 i.form, .int .i64 i.width, .int .i64 i.cc, .int .i64 i.a, .int .i64 i.b, .int .i64 i.size] := rfl
  rw [e]
  clear e hE
  have ms : True ∧ i.op = i.op := ⟨trivial, rfl⟩
  obtain ⟨v, hv⟩ : ∃ v, stopsI i = v := ⟨_, rfl⟩
  rw [hv]
  have HV := hid hv
  clear hv c0 c1 c3 c4 c5 c6 c7 c8
  go_enter Try.func39, Try.ntmps39
  by_cases z20 : i.op = 20
  case pos =>
    have HV2 : Hid (v = true) := hid (by have := HV.out; rw [← this]; simp [stopsI, endsI, indI, z20])
    rw [z20] at c2 ms
    clear z20
    go_wp2
    go_ret
    obtain rfl := HV2.out
    exact ⟨rfl, HE.out⟩
  have n20 : (i.op == 20) = false := by simpa using z20
  by_cases z21 : i.op = 21
  case pos =>
    have HV2 : Hid (v = true) := hid (by have := HV.out; rw [← this]; simp [stopsI, endsI, indI, z21])
    rw [z21] at c2 ms
    clear z21
    go_wp2
    go_ret
    obtain rfl := HV2.out
    exact ⟨rfl, HE.out⟩
  have n21 : (i.op == 21) = false := by simpa using z21
  by_cases z22 : i.op = 22
  case pos =>
    have HV2 : Hid (v = true) := hid (by have := HV.out; rw [← this]; simp [stopsI, endsI, indI, z22])
    rw [z22] at c2 ms
    clear z22
    go_wp2
    go_ret
    obtain rfl := HV2.out
    exact ⟨rfl, HE.out⟩
  have n22 : (i.op == 22) = false := by simpa using z22
  by_cases z2 : i.op = 2
  case pos =>
    have HV2 : Hid (v = true) := hid (by have := HV.out; rw [← this]; simp [stopsI, endsI, indI, z2])
    rw [z2] at c2 ms
    clear z2
    go_wp2
    go_ret
    obtain rfl := HV2.out
    exact ⟨rfl, HE.out⟩
  have n2 : (i.op == 2) = false := by simpa using z2
  by_cases z1 : i.op = 1
  case pos =>
    have HV2 : Hid (v = true) := hid (by have := HV.out; rw [← this]; simp [stopsI, endsI, indI, z1])
    rw [z1] at c2 ms
    clear z1
    go_wp2
    go_ret
    obtain rfl := HV2.out
    exact ⟨rfl, HE.out⟩
  have n1 : (i.op == 1) = false := by simpa using z1
  have HV2 : Hid (v = false) := hid (by have := HV.out; rw [← this]; simp [stopsI, endsI, z1, z2, z20, z21, z22])
  clear z1 z2 z20 z21 z22
  go_wp2
  go_ret
  obtain rfl := HV2.out
  exact ⟨rfl, HE.out⟩
set_option maxRecDepth 100000 in
set_option maxHeartbeats 4000000 in
theorem rind_any (w : World) (i : In) : Calls Try.prog 33 #[inV i] w fun e w' => e = .returned (.bool (indI i)) ∧ Ext w w' := by
  obtain ⟨W0, hW0⟩ : ∃ W0, w.alloc (.cells #[.int .u32 i.addr, .int .u32 i.imm, .int .i64 i.op, .int .i64 i.form, .int .i64 i.width, .int .i64 i.cc, .int .i64 i.a, .int .i64 i.b, .int .i64 i.size] 61) = W0 := ⟨_, rfl⟩
  have hE : Ext w W0 := by rw [← hW0]; exact (Ext.refl w).alloc _
  have hB : Box9 W0 w.heap.size i := by rw [← hW0]; exact Box9.new w i _
  have HE := hid hE
  have HB := hid hB
  obtain ⟨c0, c1, c2, c3, c4, c5, c6, c7, c8⟩ := hB
  have e : inV i = .agg #[.int .u32 i.addr, .int .u32 i.imm, .int .i64 i.op, .int .i64 i.form, .int .i64 i.width, .int .i64 i.cc, .int .i64 i.a, .int .i64 i.b, .int .i64 i.size] := rfl
  rw [e]
  clear e hE
  have ms : True ∧ i.op = i.op := ⟨trivial, rfl⟩
  obtain ⟨v, hv⟩ : ∃ v, indI i = v := ⟨_, rfl⟩
  rw [hv]
  have HV := hid hv
  clear hv c0 c1 c3 c4 c5 c6 c7 c8
  go_enter Try.func33, Try.ntmps33
  by_cases z21 : i.op = 21
  case pos =>
    have HV2 : Hid (v = true) := hid (by have := HV.out; rw [← this]; simp [stopsI, endsI, indI, z21])
    rw [z21] at c2 ms
    clear z21
    go_wp2
    go_ret
    obtain rfl := HV2.out
    exact ⟨rfl, HE.out⟩
  have n21 : (i.op == 21) = false := by simpa using z21
  by_cases z22 : i.op = 22
  case pos =>
    have HV2 : Hid (v = true) := hid (by have := HV.out; rw [← this]; simp [stopsI, endsI, indI, z22])
    rw [z22] at c2 ms
    clear z22
    go_wp2
    go_ret
    obtain rfl := HV2.out
    exact ⟨rfl, HE.out⟩
  have n22 : (i.op == 22) = false := by simpa using z22
  have HV2 : Hid (v = false) := hid (by have := HV.out; rw [← this]; simp [indI, z21, z22])
  clear z21 z22
  go_wp2
  go_ret
  obtain rfl := HV2.out
  exact ⟨rfl, HE.out⟩

set_option maxRecDepth 100000 in
set_option maxHeartbeats 4000000 in
theorem rin_any (w : World) (A : Option Addr) (n c : Nat) (l : List Nat) (hl : Sl u32R w All (.slice A n c) l) (x : Nat) :
    Calls Try.prog 43 #[.slice A n c, .int .u32 x] w fun e w' => e = .returned (.bool (l.contains x)) ∧ w = w' := by
  have HLN := hid hl.len
  have hcap := hl.cap
  have HS := hid hl
  obtain ⟨r, hr⟩ : ∃ r, l.contains x = r := ⟨_, rfl⟩
  rw [hr]
  have HR := hid hr
  clear hr hl
  go_enter Try.func43, Try.ntmps43
  go_wp2
  go_loop [5] (fun i => ∃ k : Nat, k ≤ n ∧ i = .int .i64 k ∧ Hid (∀ y ∈ l.take k, y ≠ x)) (fun i => n - (intOf i).toNat)
  case atStart => exact ⟨0, by omega, rfl, hid (by simp)⟩
  case round =>
    obtain ⟨k, hk, rfl, ha⟩ := hrel
    by_cases h1 : k < n
    · obtain ⟨y, hy⟩ : ∃ y, l[k]? = some y := ⟨_, List.getElem?_eq_getElem (by have := HLN.out; omega)⟩
      obtain ⟨b, off, rfl, c0, -⟩ := Sl.num_at HS.out hy
      have HY := hid hy
      clear hy
      by_cases h2 : y = x
      · subst h2
        have n1 : ((y : Int) == y) = true := by simp
        go_wp2
        go_ret
        refine ⟨ret_bool ?_, rfl⟩
        rw [← HR.out]
        simpa using (List.mem_of_getElem? HY.out)
      · have n1 : ((y : Int) == x) = false := by simp; omega
        have H2 := hid h2
        clear h2
        go_wp2
        go_round
        case rel => exact ⟨k + 1, by omega, by go_num, hid (by
          intro z hz
          rw [take_snoc' HY.out] at hz
          rcases List.mem_append.1 hz with hz | hz
          · exact ha.out z hz
          · rw [List.mem_singleton] at hz
            subst hz
            exact H2.out)⟩
        case measure => simp [intOf]; omega
    · obtain rfl : k = n := by omega
      go_wp2
      go_ret
      refine ⟨ret_bool ?_, rfl⟩
      rw [← HR.out]
      have h := ha.out
      rw [List.take_of_length_le (by have := HLN.out; omega)] at h
      symm
      rw [Bool.eq_false_iff]
      intro hc
      exact h x (by simpa using hc) rfl

set_option maxRecDepth 100000 in
set_option maxHeartbeats 4000000 in
theorem rtable_any (S : Nat → Prop) (w : World) (T Q : Option Addr) (nt ct nq cq : Nat) (tabs : List (List Nat)) (at_ : List Nat) (ht : Sl u32sR w S (.slice T nt ct) tabs) (hq : Sl u32R w S (.slice Q nq cq) at_) (a : Nat) :
    Calls Try.prog 32 #[.slice T nt ct, .slice Q nq cq, .int .u32 a] w (TabIs S w w (tabOf tabs at_ a)) := by
  have HLT := hid ht.len
  have HLQ := hid hq.len
  have hcap := ht.cap
  have hcap2 := hq.cap
  have HT := hid ht
  have HQ := hid hq
  clear ht hq
  go_enter Try.func32, Try.ntmps32
  go_wp2
  go_loop [8] (fun i => ∃ k : Nat, k ≤ nq ∧ k ≤ nt ∧ i = .int .i64 k ∧ Hid (∀ y ∈ at_.take k, y ≠ a)) (fun i => nq - (intOf i).toNat)
  case atStart => exact ⟨0, by omega, by omega, rfl, hid (by simp)⟩
  case round =>
    obtain ⟨k, hk, hk2, rfl, ha⟩ := hrel
    have hmiss : ∀ m, m ≤ k → (nq ≤ k ∨ nt ≤ k) → tabOf tabs at_ a = none := fun m _ h => by
      unfold tabOf
      cases hf : at_.findIdx? (fun x => x == a) with
      | none => rfl
      | some j =>
        rw [List.findIdx?_eq_some_iff_getElem] at hf
        obtain ⟨hj, he, -⟩ := hf
        have hjk : k ≤ j := by
          rcases Nat.lt_or_ge j k with h5 | h5
          · have hm : at_[j] ∈ at_.take k := List.mem_take_iff_getElem.2 ⟨j, by omega, rfl⟩
            exact absurd (by simpa using he) (ha.out _ hm)
          · exact h5
        have := HLT.out
        have := HLQ.out
        show tabs[j]? = none
        rw [List.getElem?_eq_none]
        omega
    have HMISS := hid hmiss
    clear hmiss
    by_cases h1 : k < nq
    · by_cases h2 : k < nt
      · obtain ⟨y, hy⟩ : ∃ y, at_[k]? = some y := ⟨_, List.getElem?_eq_getElem (by have := HLQ.out; omega)⟩
        obtain ⟨l, hl⟩ : ∃ l, tabs[k]? = some l := ⟨_, List.getElem?_eq_getElem (by have := HLT.out; omega)⟩
        obtain ⟨b, off, rfl, c0, -⟩ := Sl.num_at HQ.out hy
        obtain ⟨b2, off2, A', c', rfl, c1, hs⟩ := Sl_ss_at HT.out hl
        have HY := hid hy
        have HL := hid hl
        have HSS := hid hs
        clear hy hl hs
        by_cases h3 : y = a
        · subst h3
          have n1 : ((y : Int) == y) = true := by simp
          have HR : Hid (tabOf tabs at_ y = some l) := hid (by
            have hf : at_.findIdx? (fun x => x == y) = some k := by
              rw [List.findIdx?_eq_some_iff_getElem]
              obtain ⟨hlt, he⟩ := List.getElem?_eq_some_iff.1 HY.out
              refine ⟨hlt, by simp [he], fun j hj => ?_⟩
              have hm : at_[j] ∈ at_.take k := List.mem_take_iff_getElem.2 ⟨j, by omega, rfl⟩
              simpa using ha.out _ hm
            unfold tabOf
            rw [hf]
            exact HL.out)
          go_wp2
          go_ret2
          rw [HR.out]
          exact ⟨Ext.refl _, A', c', rfl, HSS.out⟩
        · have n1 : ((y : Int) == a) = false := by simp; omega
          have H3 := hid h3
          clear h3
          go_wp2
          go_round
          case rel => exact ⟨k + 1, by omega, by omega, by go_num, hid (by
            intro z hz
            rw [take_snoc' HY.out] at hz
            rcases List.mem_append.1 hz with hz | hz
            · exact ha.out z hz
            · rw [List.mem_singleton] at hz
              subst hz
              exact H3.out)⟩
          case measure => simp [intOf]; omega
      · have HR := hid (HMISS.out k (Nat.le_refl _) (.inr (by omega)))
        go_wp2
        go_ret2
        rw [HR.out]
        exact ⟨Ext.refl _, none, 0, rfl, Sl.nil⟩
    · have HR := hid (HMISS.out k (Nat.le_refl _) (.inl (by omega)))
      go_wp2
      go_ret2
      rw [HR.out]
      exact ⟨Ext.refl _, none, 0, rfl, Sl.nil⟩
end Go.Proofs.Ytolbnhkdpbdhhaa
