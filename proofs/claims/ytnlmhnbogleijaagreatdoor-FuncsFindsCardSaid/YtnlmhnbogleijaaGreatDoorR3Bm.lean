/- decompilerref03: hasImm, check, Valid. -/
import Derived.Test.YtnlmhnbogleijaaGreatDoorR3Am
import Derived.Deep.CutBlock
import Derived.Deep.CutRange
namespace Go.Proofs.YtnlmhnbogleijaaGreatDoor
open Go.RowKit Go.Deco
set_option linter.unusedSimpArgs false
set_option linter.unusedVariables false
set_option maxRecDepth 100000

theorem rhasimm_any (w : World) (i : In) : Calls Tryz.prog 122 #[inV i] w fun e w' => e = .returned (.bool (hasImmB i)) ∧ Ext w w' := by
  obtain ⟨W0, hW0⟩ : ∃ W0, w.alloc (.cells #[.int .u32 i.addr, .int .u32 i.imm, .int .i64 i.op, .int .i64 i.form, .int .i64 i.width, .int .i64 i.cc, .int .i64 i.a, .int .i64 i.b, .int .i64 i.size] 77) = W0 := ⟨_, rfl⟩
  have hE : Ext w W0 := by rw [← hW0]; exact (Ext.refl w).alloc _
  have hB : Box9 W0 w.heap.size i := by rw [← hW0]; exact Box9.new w i _
  have HE := hid hE
  have HB := hid hB
  obtain ⟨c0, c1, c2, c3, c4, c5, c6, c7, c8⟩ := hB
  have e : inV i = .agg #[.int .u32 i.addr, .int .u32 i.imm, .int .i64 i.op, .int .i64 i.form, .int .i64 i.width, .int .i64 i.cc, .int .i64 i.a, .int .i64 i.b, .int .i64 i.size] := rfl
  rw [e]
  clear e hE
  go_enter Tryz.func122, Tryz.ntmps122
  go_wp2_with fail
  refine (two_any _ _).mono ?_
  rintro e w1 ⟨rfl, hw1⟩
  subst hw1
  obtain ⟨t, ht⟩ : ∃ b, twoB i.op = b := ⟨_, rfl⟩
  rw [ht]
  have Ht := hid ht
  clear ht
  clear hW0 c0 c1 c4 c5 c6 c7 c8
  cases t with
  | true =>
    by_cases h1 : i.form = 0
    · have n1 : (i.form != 0) = false := by simpa using h1
      have HH := hid h1
      clear h1
      go_wp2_with fail
      refine (acc_any _ _).mono ?_
      rintro e w1 ⟨rfl, hw1⟩
      subst hw1
      obtain ⟨u, hu⟩ : ∃ b, accB i.op = b := ⟨_, rfl⟩
      rw [hu]
      have Hu := hid hu
      clear hu
      cases u with
      | true =>
        go_wp2
        go_ret
        exact ⟨ret_bool (by simp [hasImmB, Ht.out, HH.out, Hu.out] <;> try rfl), HE.out⟩
      | false =>
        by_cases z19 : i.op = 19
        case pos =>
          have n19 : (i.op == 19) = true := by simpa using z19
          have HH19 := hid z19
          clear z19
          go_wp2
          go_ret
          exact ⟨ret_bool (by simp [hasImmB, Ht.out, HH.out, Hu.out, HH19.out] <;> try rfl), HE.out⟩
        have n19 : (i.op == 19) = false := by simpa using z19
        have HH19 := hid z19
        clear z19
        by_cases z20 : i.op = 20
        case pos =>
          have n20 : (i.op == 20) = true := by simpa using z20
          have HH20 := hid z20
          clear z20
          go_wp2
          go_ret
          exact ⟨ret_bool (by simp [hasImmB, Ht.out, HH.out, Hu.out, HH20.out] <;> try rfl), HE.out⟩
        have n20 : (i.op == 20) = false := by simpa using z20
        have HH20 := hid z20
        clear z20
        by_cases z22 : i.op = 22
        case pos =>
          have n22 : (i.op == 22) = true := by simpa using z22
          have HH22 := hid z22
          clear z22
          go_wp2
          go_ret
          exact ⟨ret_bool (by simp [hasImmB, Ht.out, HH.out, Hu.out, HH22.out] <;> try rfl), HE.out⟩
        have n22 : (i.op == 22) = false := by simpa using z22
        have HH22 := hid z22
        clear z22
        by_cases z23 : i.op = 23
        case pos =>
          have n23 : (i.op == 23) = true := by simpa using z23
          have HH23 := hid z23
          clear z23
          go_wp2
          go_ret
          exact ⟨ret_bool (by simp [hasImmB, Ht.out, HH.out, Hu.out, HH23.out] <;> try rfl), HE.out⟩
        have n23 : (i.op == 23) = false := by simpa using z23
        have HH23 := hid z23
        clear z23
        go_wp2
        go_ret
        exact ⟨ret_bool (by simp [hasImmB, Ht.out, HH.out, Hu.out, HH19.out, HH20.out, HH22.out, HH23.out] <;> try rfl), HE.out⟩
    · have n1 : (i.form != 0) = true := by simpa using h1
      have HH := hid h1
      clear h1
      go_wp2
      go_ret
      exact ⟨ret_bool (by simp [hasImmB, Ht.out, HH.out] <;> try rfl), HE.out⟩
  | false =>
    go_wp2_with fail
    refine (acc_any _ _).mono ?_
    rintro e w1 ⟨rfl, hw1⟩
    subst hw1
    obtain ⟨u, hu⟩ : ∃ b, accB i.op = b := ⟨_, rfl⟩
    rw [hu]
    have Hu := hid hu
    clear hu
    cases u with
    | true =>
      go_wp2
      go_ret
      exact ⟨ret_bool (by simp [hasImmB, Ht.out, Hu.out] <;> try rfl), HE.out⟩
    | false =>
      by_cases z19 : i.op = 19
      case pos =>
        have n19 : (i.op == 19) = true := by simpa using z19
        have HH19 := hid z19
        clear z19
        go_wp2
        go_ret
        exact ⟨ret_bool (by simp [hasImmB, Ht.out, Hu.out, HH19.out] <;> try rfl), HE.out⟩
      have n19 : (i.op == 19) = false := by simpa using z19
      have HH19 := hid z19
      clear z19
      by_cases z20 : i.op = 20
      case pos =>
        have n20 : (i.op == 20) = true := by simpa using z20
        have HH20 := hid z20
        clear z20
        go_wp2
        go_ret
        exact ⟨ret_bool (by simp [hasImmB, Ht.out, Hu.out, HH20.out] <;> try rfl), HE.out⟩
      have n20 : (i.op == 20) = false := by simpa using z20
      have HH20 := hid z20
      clear z20
      by_cases z22 : i.op = 22
      case pos =>
        have n22 : (i.op == 22) = true := by simpa using z22
        have HH22 := hid z22
        clear z22
        go_wp2
        go_ret
        exact ⟨ret_bool (by simp [hasImmB, Ht.out, Hu.out, HH22.out] <;> try rfl), HE.out⟩
      have n22 : (i.op == 22) = false := by simpa using z22
      have HH22 := hid z22
      clear z22
      by_cases z23 : i.op = 23
      case pos =>
        have n23 : (i.op == 23) = true := by simpa using z23
        have HH23 := hid z23
        clear z23
        go_wp2
        go_ret
        exact ⟨ret_bool (by simp [hasImmB, Ht.out, Hu.out, HH23.out] <;> try rfl), HE.out⟩
      have n23 : (i.op == 23) = false := by simpa using z23
      have HH23 := hid z23
      clear z23
      go_wp2
      go_ret
      exact ⟨ret_bool (by simp [hasImmB, Ht.out, Hu.out, HH19.out, HH20.out, HH22.out, HH23.out] <;> try rfl), HE.out⟩
def r3b1 (i : In) : Bool := decide (i.op < 0) || (decide (27 < i.op) || (!formB i || !widthB i))
def r3b2 (i : In) : Bool := (hasAB i.op && !regB i.a) || ((!hasAB i.op && decide (i.a ≠ 0)) || ((hasBB i && !regB i.b) || (!hasBB i && decide (i.b ≠ 0))))
def r3b3 (i : In) : Bool := (hasCcB i.op && !ccB i.cc) || ((!hasCcB i.op && decide (i.cc ≠ 0)) || (!hasImmB i && decide (i.imm ≠ 0)))
def r3b4 (i : In) : Bool := (twoB i.op && decide (i.form = 1)) || (accB i.op || decide (i.op = 19))
def r3b5 (i : In) : Bool := decide (i.op = 20) && (decide (i.form = 1) && !narrowB (w32d ((i.imm : Int) - i.addr - 2)))
theorem r3Err_eq (i : In) : r3Err i = if r3b1 i = true then 2 else if r3b2 i = true then 2 else if r3b3 i = true then 2 else if (r3b4 i && !narrowB i.imm) = true then 7 else if r3b5 i = true then 7 else 0 := by
  simp [r3Err, r3b1, r3b2, r3b3, r3b4, r3b5]

set_option maxHeartbeats 4000000 in
theorem rcheck_any (w : World) (i : In) (hi : InOk i) : Calls Tryz.prog 107 #[inV i] w fun e w' => e = .returned (.int .i64 (r3Err i)) ∧ Ext w w' := by
  have hw3 : ∀ n : Int, IntKind.u32.wrap n = ((w32d n : Nat) : Int) := fun n => by unfold w32d; simp [IntKind.wrap, IntKind.signed, IntKind.bits]; omega
  obtain ⟨W0, hW0⟩ : ∃ W0, w.alloc (.cells #[.int .u32 i.addr, .int .u32 i.imm, .int .i64 i.op, .int .i64 i.form, .int .i64 i.width, .int .i64 i.cc, .int .i64 i.a, .int .i64 i.b, .int .i64 i.size] 77) = W0 := ⟨_, rfl⟩
  have hE : Ext w W0 := by rw [← hW0]; exact (Ext.refl w).alloc _
  have hB : Box9 W0 w.heap.size i := by rw [← hW0]; exact Box9.new w i _
  have HE := hid hE
  have HB := hid hB
  obtain ⟨c0, c1, c2, c3, c4, c5, c6, c7, c8⟩ := hB
  have e : inV i = .agg #[.int .u32 i.addr, .int .u32 i.imm, .int .i64 i.op, .int .i64 i.form, .int .i64 i.width, .int .i64 i.cc, .int .i64 i.a, .int .i64 i.b, .int .i64 i.size] := rfl
  rw [e]
  clear e hE
  rw [r3Err_eq]
  obtain ⟨B1, hB1⟩ : ∃ B1, r3b1 i = B1 := ⟨_, rfl⟩
  obtain ⟨B2, hB2⟩ : ∃ B2, r3b2 i = B2 := ⟨_, rfl⟩
  obtain ⟨B3, hB3⟩ : ∃ B3, r3b3 i = B3 := ⟨_, rfl⟩
  obtain ⟨B4, hB4⟩ : ∃ B4, r3b4 i = B4 := ⟨_, rfl⟩
  obtain ⟨B5, hB5⟩ : ∃ B5, r3b5 i = B5 := ⟨_, rfl⟩
  obtain ⟨N, hN⟩ : ∃ N, narrowB i.imm = N := ⟨_, rfl⟩
  rw [hB1, hB2, hB3, hB4, hB5, hN]
  have HB1 := hid hB1
  have HB2 := hid hB2
  have HB3 := hid hB3
  have HB4 := hid hB4
  have HB5 := hid hB5
  have HN := hid hN
  clear hB1 hB2 hB3 hB4 hB5 hN
  go_enter Tryz.func107, Tryz.ntmps107
  go_upto_region 1 with fail
  go_cut [20] from 3 to 20 (fun v wx => v = .bool B1 ∧ Hid (Box9 wx w.heap.size i) ∧ Hid (Ext w wx))
  case first =>
    by_cases h1 : i.op < 0
    · have HH1 := hid h1
      go_wp2
      go_meet
      exact ⟨congrArg Value.bool (by rw [← HB1.out]; simp [r3b1, HH1.out]), HB, HE⟩
    · by_cases h2 : i.op > 27
      · have HH2 := hid h2
        go_wp2
        go_meet
        exact ⟨congrArg Value.bool (by rw [← HB1.out]; simp [r3b1, HH2.out]), HB, HE⟩
      · have HH1 := hid h1
        have HH2 := hid h2
        go_wp2_with fail
        refine (rform_any _ i).mono ?_
        rintro e w1 ⟨rfl, hw1⟩
        have HE := hid (HE.out.trans hw1)
        have HB := hid (HB.out.ext hw1)
        clear c0 c1 c2 c3 c4 c5 c6 c7 c8 hw1
        obtain ⟨c0, c1, c2, c3, c4, c5, c6, c7, c8⟩ := HB.out
        obtain ⟨t, ht⟩ : ∃ b, formB i = b := ⟨_, rfl⟩
        rw [ht]
        have Ht := hid ht
        clear ht
        cases t with
        | false =>
          go_wp2
          go_meet
          exact ⟨congrArg Value.bool (by rw [← HB1.out]; simp [r3b1, HH1.out, HH2.out, Ht.out]), HB, HE⟩
        | true =>
          go_wp2_with fail
          refine (rwidth_any _ i).mono ?_
          rintro e w1 ⟨rfl, hw1⟩
          have HE := hid (HE.out.trans hw1)
          have HB := hid (HB.out.ext hw1)
          clear c0 c1 c2 c3 c4 c5 c6 c7 c8 hw1
          obtain ⟨c0, c1, c2, c3, c4, c5, c6, c7, c8⟩ := HB.out
          obtain ⟨u, hu⟩ : ∃ b, widthB i = b := ⟨_, rfl⟩
          rw [hu]
          have Hu := hid hu
          clear hu
          cases u with
          | false =>
            go_wp2
            go_meet
            exact ⟨congrArg Value.bool (by rw [← HB1.out]; simp [r3b1, HH1.out, HH2.out, Ht.out, Hu.out]), HB, HE⟩
          | true =>
            go_wp2
            go_meet
            exact ⟨congrArg Value.bool (by rw [← HB1.out]; simp [r3b1, HH1.out, HH2.out, Ht.out, Hu.out]), HB, HE⟩
  case rest =>
  obtain ⟨rfl, hB', hE'⟩ := hcut
  have HB := hB'
  have HE := hE'
  clear hB' hE'
  clear c0 c1 c2 c3 c4 c5 c6 c7 c8
  obtain ⟨c0, c1, c2, c3, c4, c5, c6, c7, c8⟩ := HB.out
  cases B1 with
  | true =>
    go_wp2
    go_ret
    exact ⟨rfl, HE.out⟩
  | false =>
  go_upto_region 3 with fail
  go_cut [60] from 21 to 60 (fun v wx => v = .bool B2 ∧ Hid (Box9 wx w.heap.size i) ∧ Hid (Ext w wx))
  case first =>
    go_wp2_with fail
    refine (hasa_any _ _).mono ?_
    rintro e w1 ⟨rfl, hw1⟩
    subst hw1
    obtain ⟨t, ht⟩ : ∃ b, hasAB i.op = b := ⟨_, rfl⟩
    rw [ht]
    have Ht := hid ht
    clear ht
    cases t with
    | true =>
      go_wp2_with fail
      refine (rreg_any _ _).mono ?_
      rintro e w1 ⟨rfl, hw1⟩
      subst hw1
      obtain ⟨u, hu⟩ : ∃ b, regB i.a = b := ⟨_, rfl⟩
      rw [hu]
      have Hu := hid hu
      clear hu
      cases u with
      | false =>
        go_wp2
        go_meet
        exact ⟨congrArg Value.bool (by rw [← HB2.out]; simp [r3b2, Ht.out, Hu.out]), HB, HE⟩
      | true =>
        go_wp2_with fail
        refine (hasa_any _ _).mono ?_
        rintro e w1 ⟨rfl, hw1⟩
        subst hw1
        obtain ⟨t', ht'⟩ : ∃ b, hasAB i.op = b := ⟨_, rfl⟩
        rw [ht']
        have Ht' := hid ht'
        clear ht'
        obtain rfl : t' = true := Ht'.out.symm.trans Ht.out
        go_wp2_with fail
        refine (rhasb_any _ i).mono ?_
        rintro e w1 ⟨rfl, hw1⟩
        have HE := hid (HE.out.trans hw1)
        have HB := hid (HB.out.ext hw1)
        clear c0 c1 c2 c3 c4 c5 c6 c7 c8 hw1
        obtain ⟨c0, c1, c2, c3, c4, c5, c6, c7, c8⟩ := HB.out
        obtain ⟨t2, ht2⟩ : ∃ b, hasBB i = b := ⟨_, rfl⟩
        rw [ht2]
        have Ht2 := hid ht2
        clear ht2
        cases t2 with
        | true =>
          go_wp2_with fail
          refine (rreg_any _ _).mono ?_
          rintro e w1 ⟨rfl, hw1⟩
          subst hw1
          obtain ⟨u2, hu2⟩ : ∃ b, regB i.b = b := ⟨_, rfl⟩
          rw [hu2]
          have Hu2 := hid hu2
          clear hu2
          cases u2 with
          | false =>
            go_wp2
            go_meet
            exact ⟨congrArg Value.bool (by rw [← HB2.out]; simp [r3b2, Ht.out, Hu.out, Ht2.out, Hu2.out]), HB, HE⟩
          | true =>
            go_wp2_with fail
            refine (rhasb_any _ i).mono ?_
            rintro e w1 ⟨rfl, hw1⟩
            have HE := hid (HE.out.trans hw1)
            have HB := hid (HB.out.ext hw1)
            clear c0 c1 c2 c3 c4 c5 c6 c7 c8 hw1
            obtain ⟨c0, c1, c2, c3, c4, c5, c6, c7, c8⟩ := HB.out
            obtain ⟨t3, ht3⟩ : ∃ b, hasBB i = b := ⟨_, rfl⟩
            rw [ht3]
            have Ht3 := hid ht3
            clear ht3
            obtain rfl : t3 = true := Ht3.out.symm.trans Ht2.out
            go_wp2
            go_meet
            exact ⟨congrArg Value.bool (by rw [← HB2.out]; simp [r3b2, Ht.out, Hu.out, Ht2.out, Hu2.out]), HB, HE⟩
        | false =>
          go_wp2_with fail
          refine (rhasb_any _ i).mono ?_
          rintro e w1 ⟨rfl, hw1⟩
          have HE := hid (HE.out.trans hw1)
          have HB := hid (HB.out.ext hw1)
          clear c0 c1 c2 c3 c4 c5 c6 c7 c8 hw1
          obtain ⟨c0, c1, c2, c3, c4, c5, c6, c7, c8⟩ := HB.out
          obtain ⟨t3, ht3⟩ : ∃ b, hasBB i = b := ⟨_, rfl⟩
          rw [ht3]
          have Ht3 := hid ht3
          clear ht3
          obtain rfl : t3 = false := Ht3.out.symm.trans Ht2.out
          by_cases hb : i.b = 0
          · have nb : (i.b != 0) = false := by simpa using hb
            have HHb := hid hb
            clear hb
            go_wp2
            go_meet
            exact ⟨congrArg Value.bool (by rw [← HB2.out]; simp [r3b2, Ht.out, Hu.out, Ht2.out, HHb.out]), HB, HE⟩
          · have nb : (i.b != 0) = true := by simpa using hb
            have HHb := hid hb
            clear hb
            go_wp2
            go_meet
            exact ⟨congrArg Value.bool (by rw [← HB2.out]; simp [r3b2, Ht.out, Hu.out, Ht2.out, HHb.out]), HB, HE⟩
    | false =>
      go_wp2_with fail
      refine (hasa_any _ _).mono ?_
      rintro e w1 ⟨rfl, hw1⟩
      subst hw1
      obtain ⟨t', ht'⟩ : ∃ b, hasAB i.op = b := ⟨_, rfl⟩
      rw [ht']
      have Ht' := hid ht'
      clear ht'
      obtain rfl : t' = false := Ht'.out.symm.trans Ht.out
      by_cases ha : i.a = 0
      · have na : (i.a != 0) = false := by simpa using ha
        have HHa := hid ha
        clear ha
        go_wp2_with fail
        refine (rhasb_any _ i).mono ?_
        rintro e w1 ⟨rfl, hw1⟩
        have HE := hid (HE.out.trans hw1)
        have HB := hid (HB.out.ext hw1)
        clear c0 c1 c2 c3 c4 c5 c6 c7 c8 hw1
        obtain ⟨c0, c1, c2, c3, c4, c5, c6, c7, c8⟩ := HB.out
        obtain ⟨t2, ht2⟩ : ∃ b, hasBB i = b := ⟨_, rfl⟩
        rw [ht2]
        have Ht2 := hid ht2
        clear ht2
        cases t2 with
        | true =>
          go_wp2_with fail
          refine (rreg_any _ _).mono ?_
          rintro e w1 ⟨rfl, hw1⟩
          subst hw1
          obtain ⟨u2, hu2⟩ : ∃ b, regB i.b = b := ⟨_, rfl⟩
          rw [hu2]
          have Hu2 := hid hu2
          clear hu2
          cases u2 with
          | false =>
            go_wp2
            go_meet
            exact ⟨congrArg Value.bool (by rw [← HB2.out]; simp [r3b2, Ht.out, HHa.out, Ht2.out, Hu2.out]), HB, HE⟩
          | true =>
            go_wp2_with fail
            refine (rhasb_any _ i).mono ?_
            rintro e w1 ⟨rfl, hw1⟩
            have HE := hid (HE.out.trans hw1)
            have HB := hid (HB.out.ext hw1)
            clear c0 c1 c2 c3 c4 c5 c6 c7 c8 hw1
            obtain ⟨c0, c1, c2, c3, c4, c5, c6, c7, c8⟩ := HB.out
            obtain ⟨t3, ht3⟩ : ∃ b, hasBB i = b := ⟨_, rfl⟩
            rw [ht3]
            have Ht3 := hid ht3
            clear ht3
            obtain rfl : t3 = true := Ht3.out.symm.trans Ht2.out
            go_wp2
            go_meet
            exact ⟨congrArg Value.bool (by rw [← HB2.out]; simp [r3b2, Ht.out, HHa.out, Ht2.out, Hu2.out]), HB, HE⟩
        | false =>
          go_wp2_with fail
          refine (rhasb_any _ i).mono ?_
          rintro e w1 ⟨rfl, hw1⟩
          have HE := hid (HE.out.trans hw1)
          have HB := hid (HB.out.ext hw1)
          clear c0 c1 c2 c3 c4 c5 c6 c7 c8 hw1
          obtain ⟨c0, c1, c2, c3, c4, c5, c6, c7, c8⟩ := HB.out
          obtain ⟨t3, ht3⟩ : ∃ b, hasBB i = b := ⟨_, rfl⟩
          rw [ht3]
          have Ht3 := hid ht3
          clear ht3
          obtain rfl : t3 = false := Ht3.out.symm.trans Ht2.out
          by_cases hb : i.b = 0
          · have nb : (i.b != 0) = false := by simpa using hb
            have HHb := hid hb
            clear hb
            go_wp2
            go_meet
            exact ⟨congrArg Value.bool (by rw [← HB2.out]; simp [r3b2, Ht.out, HHa.out, Ht2.out, HHb.out]), HB, HE⟩
          · have nb : (i.b != 0) = true := by simpa using hb
            have HHb := hid hb
            clear hb
            go_wp2
            go_meet
            exact ⟨congrArg Value.bool (by rw [← HB2.out]; simp [r3b2, Ht.out, HHa.out, Ht2.out, HHb.out]), HB, HE⟩
      · have na : (i.a != 0) = true := by simpa using ha
        have HHa := hid ha
        clear ha
        go_wp2
        go_meet
        exact ⟨congrArg Value.bool (by rw [← HB2.out]; simp [r3b2, Ht.out, HHa.out]), HB, HE⟩
  case rest =>
  obtain ⟨rfl, hB', hE'⟩ := hcut
  have HB := hB'
  have HE := hE'
  clear hB' hE'
  clear c0 c1 c2 c3 c4 c5 c6 c7 c8
  obtain ⟨c0, c1, c2, c3, c4, c5, c6, c7, c8⟩ := HB.out
  cases B2 with
  | true =>
    go_wp2
    go_ret
    exact ⟨rfl, HE.out⟩
  | false =>
  go_upto_region 5 with fail
  go_cut [90] from 61 to 90 (fun v wx => v = .bool B3 ∧ Hid (Box9 wx w.heap.size i) ∧ Hid (Ext w wx))
  case first =>
    go_wp2_with fail
    refine (hascc_any _ _).mono ?_
    rintro e w1 ⟨rfl, hw1⟩
    subst hw1
    obtain ⟨t, ht⟩ : ∃ b, hasCcB i.op = b := ⟨_, rfl⟩
    rw [ht]
    have Ht := hid ht
    clear ht
    cases t with
    | true =>
      go_wp2_with fail
      refine (rcc_any _ _).mono ?_
      rintro e w1 ⟨rfl, hw1⟩
      subst hw1
      obtain ⟨u, hu⟩ : ∃ b, ccB i.cc = b := ⟨_, rfl⟩
      rw [hu]
      have Hu := hid hu
      clear hu
      cases u with
      | false =>
        go_wp2
        go_meet
        exact ⟨congrArg Value.bool (by rw [← HB3.out]; simp [r3b3, Ht.out, Hu.out]), HB, HE⟩
      | true =>
        go_wp2_with fail
        refine (hascc_any _ _).mono ?_
        rintro e w1 ⟨rfl, hw1⟩
        subst hw1
        obtain ⟨t', ht'⟩ : ∃ b, hasCcB i.op = b := ⟨_, rfl⟩
        rw [ht']
        have Ht' := hid ht'
        clear ht'
        obtain rfl : t' = true := Ht'.out.symm.trans Ht.out
        go_wp2_with fail
        refine (rhasimm_any _ i).mono ?_
        rintro e w1 ⟨rfl, hw1⟩
        have HE := hid (HE.out.trans hw1)
        have HB := hid (HB.out.ext hw1)
        clear c0 c1 c2 c3 c4 c5 c6 c7 c8 hw1
        obtain ⟨c0, c1, c2, c3, c4, c5, c6, c7, c8⟩ := HB.out
        obtain ⟨t2, ht2⟩ : ∃ b, hasImmB i = b := ⟨_, rfl⟩
        rw [ht2]
        have Ht2 := hid ht2
        clear ht2
        cases t2 with
        | true =>
          go_wp2
          go_meet
          exact ⟨congrArg Value.bool (by rw [← HB3.out]; simp [r3b3, Ht.out, Hu.out, Ht2.out]), HB, HE⟩
        | false =>
          by_cases hb : i.imm = 0
          · have nb : ((i.imm : Int) != 0) = false := by simpa using hb
            have HHb := hid hb
            clear hb
            go_wp2
            go_meet
            exact ⟨congrArg Value.bool (by rw [← HB3.out]; simp [r3b3, Ht.out, Hu.out, Ht2.out, HHb.out]), HB, HE⟩
          · have nb : ((i.imm : Int) != 0) = true := by simpa using hb
            have HHb := hid hb
            clear hb
            go_wp2
            go_meet
            exact ⟨congrArg Value.bool (by rw [← HB3.out]; simp [r3b3, Ht.out, Hu.out, Ht2.out, HHb.out]), HB, HE⟩
    | false =>
      go_wp2_with fail
      refine (hascc_any _ _).mono ?_
      rintro e w1 ⟨rfl, hw1⟩
      subst hw1
      obtain ⟨t', ht'⟩ : ∃ b, hasCcB i.op = b := ⟨_, rfl⟩
      rw [ht']
      have Ht' := hid ht'
      clear ht'
      obtain rfl : t' = false := Ht'.out.symm.trans Ht.out
      by_cases ha : i.cc = 0
      · have na : (i.cc != 0) = false := by simpa using ha
        have HHa := hid ha
        clear ha
        go_wp2_with fail
        refine (rhasimm_any _ i).mono ?_
        rintro e w1 ⟨rfl, hw1⟩
        have HE := hid (HE.out.trans hw1)
        have HB := hid (HB.out.ext hw1)
        clear c0 c1 c2 c3 c4 c5 c6 c7 c8 hw1
        obtain ⟨c0, c1, c2, c3, c4, c5, c6, c7, c8⟩ := HB.out
        obtain ⟨t2, ht2⟩ : ∃ b, hasImmB i = b := ⟨_, rfl⟩
        rw [ht2]
        have Ht2 := hid ht2
        clear ht2
        cases t2 with
        | true =>
          go_wp2
          go_meet
          exact ⟨congrArg Value.bool (by rw [← HB3.out]; simp [r3b3, Ht.out, HHa.out, Ht2.out]), HB, HE⟩
        | false =>
          by_cases hb : i.imm = 0
          · have nb : ((i.imm : Int) != 0) = false := by simpa using hb
            have HHb := hid hb
            clear hb
            go_wp2
            go_meet
            exact ⟨congrArg Value.bool (by rw [← HB3.out]; simp [r3b3, Ht.out, HHa.out, Ht2.out, HHb.out]), HB, HE⟩
          · have nb : ((i.imm : Int) != 0) = true := by simpa using hb
            have HHb := hid hb
            clear hb
            go_wp2
            go_meet
            exact ⟨congrArg Value.bool (by rw [← HB3.out]; simp [r3b3, Ht.out, HHa.out, Ht2.out, HHb.out]), HB, HE⟩
      · have na : (i.cc != 0) = true := by simpa using ha
        have HHa := hid ha
        clear ha
        go_wp2
        go_meet
        exact ⟨congrArg Value.bool (by rw [← HB3.out]; simp [r3b3, Ht.out, HHa.out]), HB, HE⟩
  case rest =>
  obtain ⟨rfl, hB', hE'⟩ := hcut
  have HB := hB'
  have HE := hE'
  clear hB' hE'
  clear c0 c1 c2 c3 c4 c5 c6 c7 c8
  obtain ⟨c0, c1, c2, c3, c4, c5, c6, c7, c8⟩ := HB.out
  cases B3 with
  | true =>
    go_wp2
    go_ret
    exact ⟨rfl, HE.out⟩
  | false =>
  go_upto_region 7 with fail
  go_cut [108] from 91 to 108 (fun v wx => v = .bool B4 ∧ Hid (Box9 wx w.heap.size i) ∧ Hid (Ext w wx))
  case first =>
    go_wp2_with fail
    refine (two_any _ _).mono ?_
    rintro e w1 ⟨rfl, hw1⟩
    subst hw1
    obtain ⟨t, ht⟩ : ∃ b, twoB i.op = b := ⟨_, rfl⟩
    rw [ht]
    have Ht := hid ht
    clear ht
    cases t with
    | true =>
      by_cases ha : i.form = 1
      · have na : (i.form == 1) = true := by simpa using ha
        have HHa := hid ha
        clear ha
        go_wp2
        go_meet
        exact ⟨congrArg Value.bool (by rw [← HB4.out]; simp [r3b4, Ht.out, HHa.out]), HB, HE⟩
      · have na : (i.form == 1) = false := by simpa using ha
        have HHa := hid ha
        clear ha
        go_wp2_with fail
        refine (acc_any _ _).mono ?_
        rintro e w1 ⟨rfl, hw1⟩
        subst hw1
        obtain ⟨u2, hu2⟩ : ∃ b, accB i.op = b := ⟨_, rfl⟩
        rw [hu2]
        have Hu2 := hid hu2
        clear hu2
        cases u2 with
        | true =>
          go_wp2
          go_meet
          exact ⟨congrArg Value.bool (by rw [← HB4.out]; simp [r3b4, Ht.out, HHa.out, Hu2.out]), HB, HE⟩
        | false =>
          by_cases hb : i.op = 19
          · have nb : (i.op == 19) = true := by simpa using hb
            have HHb := hid hb
            clear hb
            go_wp2
            go_meet
            exact ⟨congrArg Value.bool (by rw [← HB4.out]; simp [r3b4, Ht.out, HHa.out, Hu2.out, HHb.out]), HB, HE⟩
          · have nb : (i.op == 19) = false := by simpa using hb
            have HHb := hid hb
            clear hb
            go_wp2
            go_meet
            exact ⟨congrArg Value.bool (by rw [← HB4.out]; simp [r3b4, Ht.out, HHa.out, Hu2.out, HHb.out]), HB, HE⟩
    | false =>
      go_wp2_with fail
      refine (acc_any _ _).mono ?_
      rintro e w1 ⟨rfl, hw1⟩
      subst hw1
      obtain ⟨u2, hu2⟩ : ∃ b, accB i.op = b := ⟨_, rfl⟩
      rw [hu2]
      have Hu2 := hid hu2
      clear hu2
      cases u2 with
      | true =>
        go_wp2
        go_meet
        exact ⟨congrArg Value.bool (by rw [← HB4.out]; simp [r3b4, Ht.out, Hu2.out]), HB, HE⟩
      | false =>
        by_cases hb : i.op = 19
        · have nb : (i.op == 19) = true := by simpa using hb
          have HHb := hid hb
          clear hb
          go_wp2
          go_meet
          exact ⟨congrArg Value.bool (by rw [← HB4.out]; simp [r3b4, Ht.out, Hu2.out, HHb.out]), HB, HE⟩
        · have nb : (i.op == 19) = false := by simpa using hb
          have HHb := hid hb
          clear hb
          go_wp2
          go_meet
          exact ⟨congrArg Value.bool (by rw [← HB4.out]; simp [r3b4, Ht.out, Hu2.out, HHb.out]), HB, HE⟩
  case rest =>
  obtain ⟨rfl, hB', hE'⟩ := hcut
  have HB := hB'
  have HE := hE'
  clear hB' hE'
  clear c0 c1 c2 c3 c4 c5 c6 c7 c8
  obtain ⟨c0, c1, c2, c3, c4, c5, c6, c7, c8⟩ := HB.out
  have htail : ∀ (W : World), Hid (Box9 W w.heap.size i) → Hid (Ext w W) → True := fun _ _ _ => trivial
  clear htail
  cases B4 with
  | true =>
    go_wp2_with fail
    refine (rbyte_any _ _).mono ?_
    rintro e w1 ⟨rfl, hw1⟩
    subst hw1
    obtain ⟨u, hu⟩ : ∃ b, narrowB i.imm = b := ⟨_, rfl⟩
    rw [hu]
    have Hu := hid hu
    clear hu
    obtain rfl : N = u := HN.out.symm.trans Hu.out
    cases N with
    | false =>
      go_wp2
      go_ret
      exact ⟨by simp, HE.out⟩
    | true =>
      have hB5 := HB5.out
      by_cases h20 : i.op = 20
      case neg =>
        have n20 : (i.op == 20) = false := by simpa using h20
        have H20 := hid h20
        clear h20
        have hb : B5 = false := by rw [← hB5]; simp [r3b5, H20.out]
        subst hb
        clear hB5
        go_wp2
        go_ret
        exact ⟨by simp, HE.out⟩
      have n20 : (i.op == 20) = true := by simpa using h20
      have H20 := hid h20
      clear h20
      by_cases hf : i.form = 1
      case neg =>
        have nf : (i.form == 1) = false := by simpa using hf
        have Hf := hid hf
        clear hf
        have hb : B5 = false := by rw [← hB5]; simp [r3b5, Hf.out]
        subst hb
        clear hB5
        go_wp2
        go_ret
        exact ⟨by simp, HE.out⟩
      have nf : (i.form == 1) = true := by simpa using hf
      have Hf := hid hf
      clear hf
      have hb : narrowB (w32d ((i.imm : Int) - i.addr - 2)) = !B5 := by rw [← hB5]; simp [r3b5, Hf.out, H20.out]
      have HNB := hid hb
      have hd : w32d ((w32d ((i.imm : Int) - i.addr) : Nat) - 2) = w32d ((i.imm : Int) - i.addr - 2) := by unfold w32d; omega
      have HD := hid hd
      clear hB5 hb hd
      go_wp2_with fail
      rw [HD.out]
      refine (rbyte_any _ _).mono ?_
      rintro e w1 ⟨rfl, hw1⟩
      subst hw1
      rw [HNB.out]
      cases B5 with
      | true =>
        go_wp2
        go_ret
        exact ⟨by simp, HE.out⟩
      | false =>
        go_wp2
        go_ret
        exact ⟨by simp, HE.out⟩
  | false =>
    have hB5 := HB5.out
    by_cases h20 : i.op = 20
    case neg =>
      have n20 : (i.op == 20) = false := by simpa using h20
      have H20 := hid h20
      clear h20
      have hb : B5 = false := by rw [← hB5]; simp [r3b5, H20.out]
      subst hb
      clear hB5
      go_wp2
      go_ret
      exact ⟨by simp, HE.out⟩
    have n20 : (i.op == 20) = true := by simpa using h20
    have H20 := hid h20
    clear h20
    by_cases hf : i.form = 1
    case neg =>
      have nf : (i.form == 1) = false := by simpa using hf
      have Hf := hid hf
      clear hf
      have hb : B5 = false := by rw [← hB5]; simp [r3b5, Hf.out]
      subst hb
      clear hB5
      go_wp2
      go_ret
      exact ⟨by simp, HE.out⟩
    have nf : (i.form == 1) = true := by simpa using hf
    have Hf := hid hf
    clear hf
    have hb : narrowB (w32d ((i.imm : Int) - i.addr - 2)) = !B5 := by rw [← hB5]; simp [r3b5, Hf.out, H20.out]
    have HNB := hid hb
    have hd : w32d ((w32d ((i.imm : Int) - i.addr) : Nat) - 2) = w32d ((i.imm : Int) - i.addr - 2) := by unfold w32d; omega
    have HD := hid hd
    clear hB5 hb hd
    go_wp2_with fail
    rw [HD.out]
    refine (rbyte_any _ _).mono ?_
    rintro e w1 ⟨rfl, hw1⟩
    subst hw1
    rw [HNB.out]
    cases B5 with
    | true =>
      go_wp2
      go_ret
      exact ⟨by simp, HE.out⟩
    | false =>
      go_wp2
      go_ret
      exact ⟨by simp, HE.out⟩
end Go.Proofs.YtnlmhnbogleijaaGreatDoor
