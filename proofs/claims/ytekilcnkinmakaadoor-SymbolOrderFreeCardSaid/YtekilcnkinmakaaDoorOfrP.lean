/- SymbolOrderFree: the statement: for every input the law returns true and leaves its arguments as they were. No conditions. -/
import Derived.Test.YtekilcnkinmakaaDoorOfrA
import Derived.Test.YtekilcnkinmakaaDoorOpenSym
import Derived.Test.YtekilcnkinmakaaDoorLaid
import Derived.Test.YtekilcnkinmakaaDoorCards
import Derived.Test.YtekilcnkinmakaaDoorTie
import Derived.SevenTiedAt
import Derived.WalkKit
import Derived.ProofKit
import Derived.OpenShut
import Derived.ShutString
import Derived.ChangeOld
import Derived.Below
import Derived.Lib.SmallJoins
namespace Go.Proofs.YtekilcnkinmakaaDoor.doneOfr
open Go.ChangeShapes Go.WideShapes Go.ChangeAt Go.RowKit Go.Deco Go.Joins Go.Deep
set_option linter.unusedVariables false

theorem own : ownKnob Tryd.prog.godebug = none := by kernel_rfl
theorem laidOut : laidOutB Tryd.prog = true := by kernel_rfl
theorem nat32 {n : Int} (h : (Lit.int .u32 n).wf = true) : ∃ k : Nat, n = k ∧ k < 4294967296 := ⟨n.toNat, by have := wf32 h; omega, by have := wf32 h; omega⟩

set_option maxRecDepth 100000 in
set_option maxHeartbeats 4000000 in
theorem lifted (os : Os) (started : os.Started) (H : Type) (enc : TypeId × Value → H) :
    ReturnsInHanded {} Tryd.checked os 10 .any (fun w args => (Rows.symbolOrderFreeSpec.pre enc Tryd.prog Tryd.f10 Rows.symbolOrderFreeRow.domain false w args ∧ laidMetH Tryd.prog Rows.symbolOrderFreeRow.laid w) ∧ sizedMet enc Tryd.prog Tryd.f10 (OpenSpec.ofChange Rows.symbolOrderFreeSpec) false w args) (Rows.symbolOrderFreeSpec.post enc Tryd.prog Tryd.f10 false true false false) := by
  refine returnsInHanded_of_change_and (C := Tryd.checked) (X := fun w _ => laidMetH Tryd.prog Rows.symbolOrderFreeRow.laid w) (fun _ _ _ hh h => h.of_heap hh) own started (by kernel_rfl) Tryd.func10
    (ChangeSpec.witness_at (enc := enc) (C := Tryd.checked) (os := os) (X := fun w _ => laidMetH Tryd.prog Rows.symbolOrderFreeRow.laid w) false (laidWorld os) #[.slice none 0 0, .int .u32 0, .string ⟨#[]⟩] 8 rfl (by kernel_rfl) (by kernel_rfl) (by kernel_rfl) (by kernel_rfl) (by kernel_rfl) (laid_met os _)) ?_
  intro W base args ds gs before hval0 hW hcnd _ hlaid _
  have htab := tab_of_laid hlaid
  have hval : ∀ (j : Nat) t v, Tryd.f10.params[j]? = some t → args[j]? = some v → Value.okWide Tryd.prog W .any base t v := hval0
  have hW' := hW
  obtain ⟨p, q, hA0, hV, rfl, hfz, hnd⟩ := hW
  have hA : DataW.TrodAll enc Tryd.prog W 0 (fun _ => true) true Tryd.f10.params.toList args.toList ds p := hA0
  rw [Tryd.params10] at hA hval
  obtain ⟨v0, vs0, d0, ds0, p0, q0, hargs, rfl, rfl, h0, r0⟩ := trodAll_cons hA
  obtain ⟨v1, vs1, d1, ds1, p1, q1, rfl, rfl, rfl, h1, r1⟩ := trodAll_cons r0
  obtain ⟨v2, vs2, d2, ds2, p2, q2, rfl, rfl, rfl, h2, r2⟩ := trodAll_cons r1
  obtain ⟨rfl, rfl, rfl⟩ := trodAll_nil r2
  obtain rfl : args = #[v0, v1, v2] := by cases args; simp_all
  obtain ⟨rfl, rfl⟩ := trodVars_none hV
  have k0 := h0
  have k1 := h1
  have k2 := h2
  have lt0 : ∀ x ∈ p0, x.block < W.heap.size := by obtain ⟨m, hm⟩ := k0; exact DataW.trod_lt m _ _ _ hm
  have lt1 : ∀ x ∈ p1, x.block < W.heap.size := by obtain ⟨m, hm⟩ := k1; exact DataW.trod_lt m _ _ _ hm
  have lt2 : ∀ x ∈ p2, x.block < W.heap.size := by obtain ⟨m, hm⟩ := k2; exact DataW.trod_lt m _ _ _ hm
  obtain ⟨A0, c0, l0, rfl, hl0⟩ := sl_of_trod (R := symR) Tryd.underlying22 (by kernel_rfl) opens_sym (hval 0 22 v0 rfl rfl) h0
  obtain ⟨z1, rfl⟩ := okWide_int Tryd.underlying23 (hval 1 23 v1 rfl rfl)
  obtain ⟨m1, fz1⟩ := h1
  obtain ⟨_, hw1, _, hb1⟩ := DataW.trod_int Tryd.underlying23 fz1
  cases hw1
  obtain ⟨n1, rfl, hn1⟩ := nat32 hb1
  obtain ⟨z2, rfl⟩ := okWide_string Tryd.underlying9 (hval 2 9 v2 rfl rfl)
  obtain ⟨m2, fz2⟩ := h2
  obtain ⟨_, hw2, _, hs2⟩ := DataW.trod_string Tryd.underlying9 fz2
  cases hw2
  clear hA0 hval0
  refine (ofr_any W htab A0 l0.length c0 l0 hl0 n1 hn1 z2).mono fun e W' ⟨he, bel⟩ => ?_
  subst he
  exact ⟨_, rfl, _, _, _, [], _, [], hW', trodAll_mk1 (shut_bool Tryd.underlying4 _), (trodAll_cons_mk (Below.trod laidOut (by kernel_rfl) (of_decide_eq_true (by kernel_rfl)) k0 bel lt0) (trodAll_cons_mk (Below.trod laidOut (by kernel_rfl) (of_decide_eq_true (by kernel_rfl)) k1 bel lt1) (trodAll_cons_mk (Below.trod laidOut (by kernel_rfl) (of_decide_eq_true (by kernel_rfl)) k2 bel lt2) trodAll_mk0))), rfl, Below.frame bel _, fun h => by cases h⟩

theorem over : Rows.symbolOrderFreeRow.holds Tryd.pinned (OpenSpec.ofChange Rows.symbolOrderFreeSpec) :=
  OpenClaim.holds_of_wide 10 Tryd.f10 rfl rfl rfl rfl rfl rfl rfl ⟨rfl, rfl, rfl, rfl, rfl⟩ rfl rfl rfl rfl rfl (by kernel_rfl) Tryd.func10 (by kernel_rfl)
    (of_decide_eq_true (by kernel_rfl)) (by unfold Func.isWrapper; first | (rw [if_pos (by decide +kernel)]; kernel_rfl) | (rw [if_neg (by decide +kernel)]; exact ⟨rfl, rfl⟩))
    (fun os started H enc _ => lifted os started H enc)

theorem rowSaid : Rows.SymbolOrderFreeSaid := over

theorem proved : Rows.SymbolOrderFreeCardSaid :=
  Claim7.holds_tied_plain_at .later [] [.data, .data, .data] true Rows.symbolOrderFreeCard.stood.harness Rows.symbolOrderFreeCard.stood.looks
    rowSaid (fun _ h => by cases h) (by kernel_rfl) (fun _ h => by cases h) symbolOrderFree_row_tie rfl ⟨rfl, rfl⟩ (by kernel_rfl) rfl
    (fun f fn hf hfn => by
      obtain rfl : f = 10 := Option.some.inj ((show Tryd.prog.funcNamed "decompiler/decompilerlaw06.SymbolOrderFree" = some 10 by kernel_rfl).symm.trans hf) |>.symm
      obtain rfl : fn = Tryd.f10 := (Option.some.inj (Tryd.func10.symm.trans hfn)).symm
      exact ⟨by kernel_rfl, fun j t ht => by
        have hall : Tryd.f10.params.toList.all (fun t => !Tryd.prog.wantsStandIn t) = true := by kernel_rfl
        have hm : t ∈ Tryd.f10.params.toList := by rw [Array.mem_toList_iff]; exact Array.mem_of_getElem? ht
        have hq : Tryd.prog.wantsStandIn t = false := by simpa using List.all_eq_true.1 hall t hm
        exact hq⟩)
    (by kernel_rfl)
#print axioms proved
end Go.Proofs.YtekilcnkinmakaaDoor.doneOfr
