/- The walks of funcs: sorted, Callees, Callers. -/
import Derived.Test.YtnlmhnbogleijaaGreatDoorFunAm
import Derived.Test.YtnlmhnbogleijaaGreatDoorUabm
namespace Go.Proofs.YtnlmhnbogleijaaGreatDoor
open Go.RowKit Go.Deco
set_option linter.unusedSimpArgs false
set_option linter.unusedVariables false

theorem sorted32_pw (l : List Nat) : (sorted32 l).Pairwise (· ≤ ·) := by
  have h1 : (sorted32 l).Pairwise (fun a b => decide (a ≤ b) = true) := List.pairwise_mergeSort (fun a b c h1 h2 => by simp at h1 h2 ⊢; omega) (fun a b => by simp; omega) l
  exact h1.imp fun h => by simpa using h
theorem sorted_asc (l : List Nat) : ddn (sorted32 l) l.length = asc l := by
  have h := ddn_sorted (sorted32_pw l) l.length (by rw [sorted32_length]; exact Nat.le_refl _)
  rw [h, List.take_of_length_le (by rw [sorted32_length]; exact Nat.le_refl _)]
  exact asc_eq fun a => sorted32_mem

set_option maxRecDepth 100000 in
set_option maxHeartbeats 400000 in
theorem fsorted_any (w : World) (S : Nat → Prop) (A : Option Addr) (n c : Nat) (l : List Nat) (hl : Sl u32R w S (.slice A n c) l) (hn : n ≤ 1000000) :
    Calls Tryz.prog 16 #[.slice A n c] w (RowPost w (asc l)) := by
  have hln := hl.len
  obtain ⟨L, hL⟩ : ∃ L, asc l = L := ⟨_, rfl⟩
  rw [hL]
  have HLL := hid hL; clear hL
  have HLN := hid hln; clear hln
  have HS := hid hl; clear hl
  go_enter Tryz.func16, Tryz.ntmps16
  go_wp2_with fail
  refine (clone32_any w S A n c l HS.out hn).mono ?_
  rintro e w1 ⟨hx1, A1, c1, rfl, ho1⟩
  have HX1 := hid hx1
  have HO1 := hid ho1
  clear hx1 ho1
  go_wp2_with fail
  refine (sort_own HO1.out (by have := HLN.out; omega)).mono ?_
  rintro e w2 ⟨rfl, ho2, hg2⟩
  have HX2 := hid (HX1.out.grown hg2 (fun k hk => (HO1.out.block k hk).1))
  have HO2 := hid ho2
  clear ho2 hg2
  go_wp2_with fail
  refine (compact_any w w2 HX2.out A1 l.length c1 (sorted32 l) HO2.out (by have := HLN.out; omega)).mono ?_
  rintro e w3 ⟨hx3, A3, c3, rfl, ho3⟩
  have HX3 := hid hx3
  have HO3 := hid ho3
  have HSA := hid (sorted_asc l)
  obtain ⟨D, hD⟩ : ∃ D, ddn (sorted32 l) l.length = D := ⟨_, rfl⟩
  rw [hD] at HO3 HSA ⊢
  clear hx3 ho3 hD
  go_wp2
  go_ret
  have e1 := HSA.out.trans HLL.out
  subst e1
  exact ⟨HX3.out, A3, c3, rfl, HO3.out⟩

/-! ### Callees -/
theorem call_fc1 : ∀ args w, (callFunc 28 args).run Tryz.prog w = .ok (.enter 28 args) w := fun args w => callFunc_enter Tryz.func28 (by kernel_rfl) rfl args w

set_option maxRecDepth 100000 in
set_option maxHeartbeats 400000 in
theorem callees1_any (w : World) (A : Option Addr) (n c : Nat) (l : List Fn18) (hl : Sl fnR w All (.slice A n c) l) (hn : n ≤ 1000000) (a b : Nat) (hb : w.cell? ⟨b, 0, none⟩ = some (.slice A n c)) :
    Calls Tryz.prog 28 #[.int .u32 a, .pointer (some ⟨b, 0, none⟩)] w fun e w' => e = .returned (.bool (!(fnd l a).isSome)) ∧ Ext w w' := by
  have HS := hid hl; clear hl
  have hlt := World.block_lt_of_cell? _ _ hb
  obtain ⟨o, ho⟩ : ∃ o, fnd l a = o := ⟨_, rfl⟩
  rw [ho]
  have HO := hid ho; clear ho
  go_enter Tryz.func28, Tryz.ntmps28
  go_wp2_with fail
  refine (ffind_any w All A n c l HS.out hn a).mono ?_
  rintro e w1 ⟨hx1, hp⟩
  rw [HO.out] at hp
  have HX1 := hid hx1
  clear hx1 hb
  cases o with
  | none =>
    have hp' := hp
    subst hp'
    clear hp
    go_wp2
    go_ret
    exact ⟨rfl, HX1.out.alloc _⟩
  | some f =>
    obtain ⟨bA, bc, cA, cc, rfl, -, -, -⟩ := hp
    go_wp2
    go_ret
    exact ⟨rfl, HX1.out.alloc _⟩

set_option maxRecDepth 100000 in
set_option maxHeartbeats 400000 in
theorem callees_any (wo w : World) (ho : Ext wo w) (A : Option Addr) (n c : Nat) (l : List Fn18) (hl : Sl fnR wo All (.slice A n c) l) (hn : n ≤ 1000) (hc : ∀ f ∈ l, f.calls.length ≤ 1000) (a : Nat) :
    Calls Tryz.prog 13 #[.slice A n c, .int .u32 a] w (ListOf w (calleesOf l a)) := by
  have HS := hid (hl.ext ho); clear hl ho
  have HC := hid hc; clear hc
  obtain ⟨L, hL⟩ : ∃ L, calleesOf l a = L := ⟨_, rfl⟩
  rw [hL]
  have HLL := hid hL; clear hL
  obtain ⟨o, ho⟩ : ∃ o, fnd l a = o := ⟨_, rfl⟩
  have HO := hid ho; clear ho
  obtain ⟨W0, hW0⟩ : ∃ W0, w.alloc (Obj.cells #[.slice A n c] 28) = W0 := ⟨_, rfl⟩
  have hE : Ext w W0 := by rw [← hW0]; exact (Ext.refl w).alloc _
  have q0 : W0.cell? ⟨w.heap.size, 0, none⟩ = some (.slice A n c) := by rw [← hW0]; simp
  have hsz : W0.heap.size = w.heap.size + 1 := by rw [← hW0]; simp
  have HE := hid hE; clear hE
  have HSZ := hid hsz; clear hsz
  go_enter Tryz.func13, Tryz.ntmps13
  go_wp2_with fail
  refine (ffind_any W0 All A n c l (HS.out.ext HE.out) (by omega) a).mono ?_
  rintro e w1 ⟨hx1, hp⟩
  have HQ := hid (hx1.cell q0)
  have HX1 := hid (HE.out.trans hx1)
  have HXW := hid hx1
  clear hx1 hW0 q0
  rw [HO.out] at hp
  cases o with
  | none =>
    have hp' := hp
    subst hp'
    clear hp
    go_wp2
    go_ret
    have : L = [] := by rw [← HLL.out, calleesOf, HO.out]
    subst this
    exact ⟨HX1.out.alloc _, none, 0, rfl, Sl.nil⟩
  | some f =>
    obtain ⟨bA, bc, cA, cc, rfl, hb, hcl, hel⟩ := hp
    have hfc : f.calls.length ≤ 1000 := HC.out f (fnd_mem HO.out)
    have HCL := hid hcl
    clear hb hcl
    have hx2 := (Ext.refl w1).alloc (Obj.cells #[.int .u32 f.entry, .string f.name, .slice bA f.blocks.length bc, .slice cA f.calls.length cc, .bool f.leaf] 40)
    have HX2 := hid hx2; clear hx2
    have hq2 := HX2.out.cell HQ.out
    have HQ2 := hid hq2; clear hq2
    go_wp2_with fail
    refine (fsorted_any _ All cA f.calls.length cc f.calls ((HCL.out.ext HXW.out).ext HX2.out) (by omega)).mono ?_
    rintro e w3 ⟨hx3, A3, c3, rfl, ho3⟩
    have HO3 := hid ho3
    have HX3 := hid hx3
    clear hx3 ho3
    have hpred : NumPred 28 (.pointer (some ⟨w.heap.size, 0, none⟩)) (w1.alloc (Obj.cells #[.int .u32 f.entry, .string f.name, .slice bA f.blocks.length bc, .slice cA f.calls.length cc, .bool f.leaf] 40)) (fun a => !(fnd l a).isSome) :=
      fun w' x hk hs hx => callees1_any w' A n c l (((HS.out.ext HX1.out).ext HX2.out).keep fun b _ hb => hk b hb) (by omega) x w.heap.size ((World.cell?_of_block (hk _ (isCells_of HQ2.out))).trans HQ2.out)
    have HPR := hid hpred
    clear hpred
    have hal : (asc f.calls).length ≤ 1000 := by have := asc_len f.calls; omega
    go_wp2_with fail
    refine (delete_any 28 _ _ w3 HX3.out _ HPR.out call_fc1 A3 (asc f.calls).length c3 (asc f.calls) HO3.out (by omega)).mono ?_
    rintro e w4 ⟨hx4, A4, c4, rfl, ho4⟩
    have he : (asc f.calls).filter (fun x => !!(fnd l x).isSome) = L := by
      rw [← HLL.out, ← program_callees l f HO.out]
      simp
    have HX4 := hid ((HX1.out.trans HX2.out).trans hx4)
    have HO4 := hid ho4.sl
    rw [he] at HO4 ⊢
    clear hx4 ho4 he
    go_wp2
    go_ret
    exact ⟨HX4.out, A4, c4, rfl, HO4.out⟩

/-! ### Callers -/
set_option maxRecDepth 100000 in
set_option maxHeartbeats 1000000 in
theorem callers_any (wo w : World) (ho : Ext wo w) (A : Option Addr) (n c : Nat) (l : List Fn18) (hl : Sl fnR wo All (.slice A n c) l) (hn : n ≤ 1000) (hc : ∀ f ∈ l, f.calls.length ≤ 1000) (a : Nat) :
    Calls Tryz.prog 14 #[.slice A n c, .int .u32 a] w (ListOf w (callersOf l a)) := by
  have HS := hid (hl.ext ho); clear hl ho
  have hlen := HS.out.len
  have HC := hid hc; clear hc
  obtain ⟨i0, hi, hz0, hz1, hz2⟩ := info_parts info_w32
  have HI := hid hi; clear hi
  have HZ0 := hid hz0; clear hz0
  have HZ1 := hid hz1; clear hz1
  have HZ2 := hid hz2; clear hz2
  obtain ⟨L, hL⟩ : ∃ L, callersOf l a = L := ⟨_, rfl⟩
  rw [hL]
  have HLL := hid hL; clear hL
  obtain ⟨o, ho⟩ : ∃ o, fnd l a = o := ⟨_, rfl⟩
  have HO := hid ho; clear ho
  obtain ⟨F, hF⟩ : ∃ F, firsts l = F := ⟨_, rfl⟩
  have hFl : F.length ≤ 1000 := by have := firsts_len l; rw [hF] at this; omega
  have hFc : ∀ f ∈ F, f.calls.length ≤ 1000 := fun f hf => HC.out f (firsts_sub (by rw [hF]; exact hf))
  have HF := hid hF; clear hF
  have HFC := hid hFc; clear hFc
  clear hlen
  go_enter Tryz.func14, Tryz.ntmps14
  go_wp2_with fail
  refine (ffind_any w All A n c l HS.out (by omega) a).mono ?_
  rintro e w1 ⟨hx1, hp⟩
  have HX1 := hid hx1
  clear hx1
  rw [HO.out] at hp
  cases o with
  | none =>
    have hp' := hp
    subst hp'
    clear hp
    go_wp2
    go_ret
    have : L = [] := by rw [← HLL.out, callersOf, HO.out]; rfl
    subst this
    exact ⟨HX1.out.alloc _, none, 0, rfl, Sl.nil⟩
  | some f0 =>
    obtain ⟨bA0, bc0, cA0, cc0, rfl, -, -, -⟩ := hp
    have HXA := hid (HX1.out.alloc (Obj.cells #[.int .u32 f0.entry, .string f0.name, .slice bA0 f0.blocks.length bc0, .slice cA0 f0.calls.length cc0, .bool f0.leaf] 40))
    go_wp2_with fail
    refine (first_any _ A n c l (HS.out.ext HXA.out) (by omega)).mono ?_
    rintro e w2 ⟨hx2, A2, c2, rfl, hs2⟩
    rw [HF.out] at hs2 ⊢
    have HX2 := hid (HXA.out.trans hx2)
    have HS2 := hid hs2
    have hc2 := hs2.cap
    have hc21 := hc2.1
    have hc22 := hc2.2
    clear hx2 hs2 hc2 HX1 HXA
    obtain ⟨N, hN⟩ : ∃ N, F.length = N := ⟨_, rfl⟩
    rw [hN] at HS2 hc21 hFl ⊢
    have HN := hid hN; clear hN
    go_wp2
    go_loopw [7, 21] (fun v i wr => ∃ (k : Nat) (A' : Option Addr) (c' : Nat) (M : List Nat), k ≤ N ∧ i = .int .i64 k ∧ v = .slice A' M.length c' ∧ Hid (OwnS u32R wr w2.heap.size 38 All (.slice A' M.length c') M) ∧ Hid (Ext w2 wr) ∧ Hid (M = ((F.take k).filter fun f => f.calls.contains a).map (·.entry)) ∧ Hid (M.length ≤ k)) (fun _ i _ => N - (intOf i).toNat)
    case atStart => exact ⟨0, none, 0, [], by omega, rfl, rfl, hid OwnS.nil, hid (Ext.refl _), hid (by simp), hid (by simp)⟩
    case round =>
      obtain ⟨k, A', c', M, hk, rfl, rfl, hown, hx, hM, hMk⟩ := hrel
      by_cases h1 : k < N
      · obtain ⟨f, hf⟩ : ∃ f, F[k]? = some f := ⟨_, List.getElem?_eq_getElem (by have := HN.out; omega)⟩
        obtain ⟨b, off, bA, bc, cA, cc, rfl, -, hcl, hel, hnm, c0, c1, d2, c3, c4⟩ := Sl_fn_at HS2.out hf
        have c0 := hx.out.cell c0
        have c1 := hx.out.cell c1
        have d2 := hx.out.cell d2
        have c3 := hx.out.cell c3
        have c4 := hx.out.cell c4
        have hfc := HFC.out f (List.mem_of_getElem? hf)
        have hsn : ((F.take (k + 1)).filter fun f => f.calls.contains a).map (·.entry) = M ++ (if f.calls.contains a then [f.entry] else []) := by
          rw [take_snoc' hf, List.filter_append, List.map_append, ← hM.out]
          congr 1
          rw [List.filter_cons]
          cases f.calls.contains a <;> rfl
        have HCL := hid (hcl.ext hx.out); clear hcl
        have HSN := hid hsn; clear hsn
        clear hf
        have HX3 := hid ((Ext.refl wr).alloc (Obj.cells #[.int .u32 f.entry, .string f.name, .slice bA f.blocks.length bc, .slice cA f.calls.length cc, .bool f.leaf] 40))
        go_wp2_with fail
        refine (contains32_any _ All cA f.calls.length cc f.calls (HCL.out.ext HX3.out) (by omega) a).mono ?_
        rintro e w3 ⟨rfl, rfl⟩
        obtain ⟨r, hr⟩ : ∃ r, f.calls.contains a = r := ⟨_, rfl⟩
        rw [hr] at HSN ⊢
        clear hr
        have HO3 := hid (hown.out.ext HX3.out)
        have HX4 := hid (hx.out.trans HX3.out)
        cases r with
        | false =>
          go_wp2
          first
            | go_roundw
            | refine ⟨?rel, ?measure⟩
          case rel => exact ⟨k + 1, A', c', M, by omega, by go_num, rfl, HO3, HX4, hid (by have := HSN.out; simpa using this.symm), hid (by have := hMk.out; omega)⟩
          case measure => simp [intOf]; omega
        | true =>
          go_wp2_with (first
            | (at_builtin; refine wpList_app1s rfl (.tmp 29) (.tmp 32) 23 rfl w2.heap.size 38 i0 _ 1 4 Tryz.underlying23 HI.out HZ0.out HZ1.out HZ2.out rfl u32R rfl (.slice A' M.length c') M rfl HO3.out (wr.heap.size + 1) (by simp) f.entry rfl ⟨rfl, hel⟩ (by have := hMk.out; omega) (by have := hMk.out; omega) (by exact HX4.out.size) ?_; intro A5 c5 w5 hown5 hg5; have HO5 := hid hown5; have HX5 := hid ((HX4.out.alloc _).grown hg5 (fun k hk => (HO3.out.block _ hk).1)); clear hown5 hg5)
            | fail)
          first
            | go_roundw
            | refine ⟨?rel, ?measure⟩
          case rel => exact ⟨k + 1, A5, c5, M ++ [f.entry], by omega, by go_num, by simp, hid (by simpa using HO5.out), HX5, hid (by have := HSN.out; simpa using this.symm), hid (by have := hMk.out; simp; omega)⟩
          case measure => simp [intOf]; omega
      · obtain rfl : N = k := by omega
        have hMN := hMk.out
        have HM2 := hid (HX2.out.trans hx.out)
        go_wp2_with fail
        refine (fsorted_any _ All A' M.length c' M hown.out.sl (by omega)).mono ?_
        rintro e w6 ⟨hx6, A6, c6, rfl, ho6⟩
        have e1 : F.take N = F := List.take_of_length_le (by have := HN.out; omega)
        have he : asc M = L := by
          rw [← HLL.out, hM.out, e1, ← HF.out]
          exact program_callers (by rw [HO.out]; rfl)
        have HX6 := hid (HM2.out.trans hx6)
        have HS6 := hid ho6.sl
        rw [he] at HS6 ⊢
        clear hx6 ho6 he
        go_wp2
        go_ret
        exact ⟨HX6.out, A6, c6, rfl, HS6.out⟩
end Go.Proofs.YtnlmhnbogleijaaGreatDoor
