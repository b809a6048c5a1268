/- StructsCover: the statement: for every input the law returns true and leaves its arguments as they were. No conditions. -/
import Derived.Test.YtacmjhcfjhpkeaaGreatDoorLcvm
import Derived.Test.YtacmjhcfjhpkeaaGreatDoorOpen34m
import Derived.Test.YtacmjhcfjhpkeaaGreatDoorLaidm
import Derived.Test.YtacmjhcfjhpkeaaGreatDoorCards
import Derived.Test.YtacmjhcfjhpkeaaGreatDoorTie
import Derived.SevenTiedAt
import Derived.WalkKit
import Derived.ProofKit
import Derived.OpenShut
import Derived.ShutString
import Derived.ChangeOld
import Derived.Below
import Derived.Lib.SmallJoins
namespace Go.Proofs.YtacmjhcfjhpkeaaGreatDoor.doneScv
open Go.ChangeShapes Go.WideShapes Go.ChangeAt Go.RowKit Go.Deco Go.Joins Go.Deep
set_option linter.unusedVariables false

theorem own : ownKnob Tryz.prog.godebug = none := by kernel_rfl
theorem laidOut : laidOutB Tryz.prog = true := by kernel_rfl
theorem nat32 {n : Int} (h : (Lit.int .u32 n).wf = true) : ∃ k : Nat, n = k ∧ k < 4294967296 := ⟨n.toNat, by have := wf32 h; omega, by have := wf32 h; omega⟩

set_option maxRecDepth 100000 in
set_option maxHeartbeats 4000000 in
theorem lifted (os : Os) (started : os.Started) (H : Type) (enc : TypeId × Value → H) :
  ReturnsInHanded {} Tryz.checked os 4 .any (fun w args => (Rows.structsCoverSpec.pre enc Tryz.prog Tryz.f4 Rows.structsCoverRow.domain false w args ∧ laidMetH Tryz.prog Rows.structsCoverRow.laid w) ∧ sizedMet enc Tryz.prog Tryz.f4 (OpenSpec.ofChange Rows.structsCoverSpec) false w args) (Rows.structsCoverSpec.post enc Tryz.prog Tryz.f4 false true false false) := by
 refine returnsInHanded_of_change_and (C := Tryz.checked) (X := fun w _ => laidMetH Tryz.prog Rows.structsCoverRow.laid w) (fun _ _ _ hh h => h.of_heap hh) own started (by kernel_rfl) Tryz.func4
  (ChangeSpec.witness_at (enc := enc) (C := Tryz.checked) (os := os) (X := fun w _ => laidMetH Tryz.prog Rows.structsCoverRow.laid w) false (laidWorld os) #[.slice none 0 0] 8 rfl (by kernel_rfl) (by kernel_rfl) (by kernel_rfl) (by kernel_rfl) (by kernel_rfl) (laid_met os _)) ?_
 intro W base args ds gs before hval0 hW hcnd _ hlaid _
 have htab := tab_of_laid hlaid
 have hval : ∀ (j : Nat) t v, Tryz.f4.params[j]? = some t → args[j]? = some v → Value.okWide Tryz.prog W .any base t v := hval0
 have hW' := hW
 obtain ⟨p, q, hA0, hV, rfl, hfz, hnd⟩ := hW
 have hA : DataW.TrodAll enc Tryz.prog W 0 (fun _ => true) true Tryz.f4.params.toList args.toList ds p := hA0
 rw [Tryz.params4] at hA hval
 obtain ⟨v0, vs0, d0, ds0, p0, q0, hargs, rfl, rfl, h0, r0⟩ := trodAll_cons hA
 obtain ⟨rfl, rfl, rfl⟩ := trodAll_nil r0
 obtain rfl : args = #[v0] := by cases args; simp_all
 obtain ⟨rfl, rfl⟩ := trodVars_none hV
 have k0 := h0
 have lt0 : ∀ x ∈ p0, x.block < W.heap.size := by obtain ⟨m, hm⟩ := k0; exact DataW.trod_lt m _ _ _ hm
 obtain ⟨A0, c0, l0, rfl, hl0⟩ := sl_of_trod (R := accR) Tryz.underlying30 (by kernel_rfl) opens_acc (hval 0 30 v0 rfl rfl) h0
 clear hA0 hval0
 refine (covlaw_any W (tab10_of_laid hlaid) htab A0 l0.length c0 l0 hl0).mono fun e W' ⟨he, bel⟩ => ?_
 subst he
 exact ⟨_, rfl, _, _, _, [], _, [], hW', trodAll_mk1 (shut_bool Tryz.underlying4 _), (trodAll_cons_mk (Below.trod laidOut (by kernel_rfl) (of_decide_eq_true (by kernel_rfl)) k0 bel lt0) trodAll_mk0), rfl, Below.frame bel _, fun h => by cases h⟩

theorem over : Rows.structsCoverRow.holds Tryz.pinned (OpenSpec.ofChange Rows.structsCoverSpec) :=
 OpenClaim.holds_of_wide 4 Tryz.f4 rfl rfl rfl rfl rfl rfl rfl ⟨rfl, rfl, rfl, rfl, rfl⟩ rfl rfl rfl rfl rfl (by kernel_rfl) Tryz.func4 (by kernel_rfl)
  (of_decide_eq_true (by kernel_rfl)) (by unfold Func.isWrapper; first | (rw [if_pos (by decide +kernel)]; kernel_rfl) | (rw [if_neg (by decide +kernel)]; exact ⟨rfl, rfl⟩))
  (fun os started H enc _ => lifted os started H enc)

theorem rowSaid : Rows.StructsCoverSaid := over

theorem proved : Rows.StructsCoverCardSaid :=
 Claim7.holds_tied_plain_at .later [] [.data, .data, .data] true Rows.structsCoverCard.stood.harness Rows.structsCoverCard.stood.looks
  rowSaid (fun _ h => by cases h) (by kernel_rfl) (fun _ h => by cases h) structsCover_row_tie rfl ⟨rfl, rfl⟩ (by kernel_rfl) rfl
  (fun f fn hf hfn => by
   obtain rfl : f = 4 := Option.some.inj ((show Tryz.prog.funcNamed "decompiler/decompilerlaw34.StructsCover" = some 4 by kernel_rfl).symm.trans hf) |>.symm
   obtain rfl : fn = Tryz.f4 := (Option.some.inj (Tryz.func4.symm.trans hfn)).symm
   exact ⟨by kernel_rfl, fun j t ht => by
    have hall : Tryz.f4.params.toList.all (fun t => !Tryz.prog.wantsStandIn t) = true := by kernel_rfl
    have hm : t ∈ Tryz.f4.params.toList := by rw [Array.mem_toList_iff]; exact Array.mem_of_getElem? ht
    have hq : Tryz.prog.wantsStandIn t = false := by simpa using List.all_eq_true.1 hall t hm
    exact hq⟩)
  (by kernel_rfl)
#print axioms proved
end Go.Proofs.YtacmjhcfjhpkeaaGreatDoor.doneScv
