/- decompilerref03: the small tests. decompilerref03 as plain law: why an instruction has no encoding, how long it is; the same as the program's. No program in sight. -/
import Derived.Test.YtnlmhnbogleijaaGreatDoorIsam
namespace Go.Proofs.YtnlmhnbogleijaaGreatDoor
open Go.RowKit Go.Deco
set_option linter.unusedSimpArgs false
set_option linter.unusedVariables false

def twoB (n : Int) : Bool := decide (5 ≤ n) && decide (n ≤ 15)
def accB (n : Int) : Bool := decide (n = 16) || (decide (n = 17) || decide (n = 18))
def hasAB (n : Int) : Bool := decide (3 ≤ n) && (decide (n ≤ 27) && (decide (n ≠ 20) && decide (n ≠ 23)))
def hasCcB (n : Int) : Bool := decide (n = 20) || decide (n = 25)
def ccB (n : Int) : Bool := decide (0 ≤ n) && decide (n ≤ 14)
def formB (i : In) : Bool := if twoB i.op then decide (0 ≤ i.form) && decide (i.form ≤ 2) else if i.op = 20 then decide (i.form = 1) || decide (i.form = 2) else decide (i.form = 0)
def widthB (i : In) : Bool := if i.op = 17 then decide (i.width = 1) || decide (i.width = 2) else if accB i.op then decide (i.width = 1) || (decide (i.width = 2) || decide (i.width = 4)) else decide (i.width = 0)
def hasBB (i : In) : Bool := (twoB i.op && decide (i.form = 0)) || (accB i.op || decide (i.op = 19))
def hasImmB (i : In) : Bool := (twoB i.op && decide (i.form ≠ 0)) || (accB i.op || (decide (i.op = 19) || (decide (i.op = 20) || (decide (i.op = 22) || decide (i.op = 23)))))
set_option maxRecDepth 100000
theorem two_any (w : World) (n : Int) : Calls Tryz.prog 108 #[.int .i64 n] w fun e w' => e = .returned (.bool (twoB n)) ∧ w = w' := by
  go_enter Tryz.func108, Tryz.ntmps108
  by_cases h1 : 5 ≤ n
  · by_cases h2 : n ≤ 15
    · go_wp2
      go_ret
      exact ⟨ret_bool (by simp [twoB]; omega), rfl⟩
    · go_wp2
      go_ret
      exact ⟨ret_bool (by simp [twoB]; omega), rfl⟩
  · go_wp2
    go_ret
    exact ⟨ret_bool (by simp [twoB]; omega), rfl⟩
theorem rreg_any (w : World) (n : Int) : Calls Tryz.prog 118 #[.int .i64 n] w fun e w' => e = .returned (.bool (regB n)) ∧ w = w' := by
  go_enter Tryz.func118, Tryz.ntmps118
  by_cases h1 : 0 ≤ n
  · by_cases h2 : n < 8
    · go_wp2
      go_ret
      exact ⟨ret_bool (by simp [regB]; omega), rfl⟩
    · go_wp2
      go_ret
      exact ⟨ret_bool (by simp [regB]; omega), rfl⟩
  · go_wp2
    go_ret
    exact ⟨ret_bool (by simp [regB]; omega), rfl⟩
theorem rcc_any (w : World) (n : Int) : Calls Tryz.prog 121 #[.int .i64 n] w fun e w' => e = .returned (.bool (ccB n)) ∧ w = w' := by
  go_enter Tryz.func121, Tryz.ntmps121
  by_cases h1 : 0 ≤ n
  · by_cases h2 : n ≤ 14
    · go_wp2
      go_ret
      exact ⟨ret_bool (by simp [ccB]; omega), rfl⟩
    · go_wp2
      go_ret
      exact ⟨ret_bool (by simp [ccB]; omega), rfl⟩
  · go_wp2
    go_ret
    exact ⟨ret_bool (by simp [ccB]; omega), rfl⟩
theorem rbyte_any (w : World) (n : Nat) : Calls Tryz.prog 123 #[.int .u32 n] w fun e w' => e = .returned (.bool (narrowB n)) ∧ w = w' := by
  go_enter Tryz.func123, Tryz.ntmps123
  by_cases h1 : (n : Int) ≤ 127
  · go_wp2
    go_ret
    exact ⟨ret_bool (by simp [narrowB]; omega), rfl⟩
  · by_cases h2 : (4294967168 : Int) ≤ n
    · go_wp2
      go_ret
      exact ⟨ret_bool (by simp [narrowB]; omega), rfl⟩
    · go_wp2
      go_ret
      exact ⟨ret_bool (by simp [narrowB]; omega), rfl⟩
theorem acc_any (w : World) (n : Int) : Calls Tryz.prog 110 #[.int .i64 n] w fun e w' => e = .returned (.bool (accB n)) ∧ w = w' := by
  go_enter Tryz.func110, Tryz.ntmps110
  by_cases h1 : n = 16
  · subst h1
    go_wp2
    go_ret
    exact ⟨ret_bool (by simp [accB]), rfl⟩
  · have n1 : (n == 16) = false := by simpa using h1
    by_cases h2 : n = 17
    · subst h2
      go_wp2
      go_ret
      exact ⟨ret_bool (by simp [accB]), rfl⟩
    · have n2 : (n == 17) = false := by simpa using h2
      go_wp2
      go_ret
      exact ⟨ret_bool (by simp [accB, h1, h2]; rfl), rfl⟩
theorem hascc_any (w : World) (n : Int) : Calls Tryz.prog 120 #[.int .i64 n] w fun e w' => e = .returned (.bool (hasCcB n)) ∧ w = w' := by
  go_enter Tryz.func120, Tryz.ntmps120
  by_cases h1 : n = 20
  · subst h1
    go_wp2
    go_ret
    exact ⟨ret_bool (by simp [hasCcB]), rfl⟩
  · have n1 : (n == 20) = false := by simpa using h1
    go_wp2
    go_ret
    exact ⟨ret_bool (by simp [hasCcB, h1]; rfl), rfl⟩
theorem hasa_any (w : World) (n : Int) : Calls Tryz.prog 117 #[.int .i64 n] w fun e w' => e = .returned (.bool (hasAB n)) ∧ w = w' := by
  go_enter Tryz.func117, Tryz.ntmps117
  by_cases h1 : 3 ≤ n
  · by_cases h2 : n ≤ 27
    · by_cases h3 : n = 20
      · subst h3
        go_wp2
        go_ret
        exact ⟨ret_bool (by simp [hasAB]), rfl⟩
      · have n3 : (n != 20) = true := by simpa using h3
        go_wp2
        go_ret
        exact ⟨ret_bool (by simp [hasAB, h1, h2, h3]; rfl), rfl⟩
    · go_wp2
      go_ret
      exact ⟨ret_bool (by simp [hasAB]; omega), rfl⟩
  · go_wp2
    go_ret
    exact ⟨ret_bool (by simp [hasAB]; omega), rfl⟩

theorem rform_any (w : World) (i : In) : Calls Tryz.prog 115 #[inV i] w fun e w' => e = .returned (.bool (formB i)) ∧ Ext w w' := by
  obtain ⟨W0, hW0⟩ : ∃ W0, w.alloc (.cells #[.int .u32 i.addr, .int .u32 i.imm, .int .i64 i.op, .int .i64 i.form, .int .i64 i.width, .int .i64 i.cc, .int .i64 i.a, .int .i64 i.b, .int .i64 i.size] 77) = W0 := ⟨_, rfl⟩
  have hE : Ext w W0 := by rw [← hW0]; exact (Ext.refl w).alloc _
  have hB : Box9 W0 w.heap.size i := by rw [← hW0]; exact Box9.new w i _
  have HE := hid hE
  obtain ⟨c0, c1, c2, c3, c4, c5, c6, c7, c8⟩ := hB
  have e : inV i = .agg #[.int .u32 i.addr, .int .u32 i.imm, .int .i64 i.op, .int .i64 i.form, .int .i64 i.width, .int .i64 i.cc, .int .i64 i.a, .int .i64 i.b, .int .i64 i.size] := rfl
  rw [e]
  clear e hE
  go_enter Tryz.func115, Tryz.ntmps115
  go_wp2_with fail
  refine (two_any _ _).mono ?_
  rintro e w1 ⟨rfl, hw1⟩
  subst hw1
  obtain ⟨t, ht⟩ : ∃ b, twoB i.op = b := ⟨_, rfl⟩
  rw [ht]
  have Ht := hid ht
  clear ht
  clear hW0 c0 c1 c4 c5 c6 c7 c8
  cases t with
  | true =>
    by_cases h1 : 0 ≤ i.form
    · go_wp2
      go_ret
      exact ⟨ret_bool (by simp [formB, Ht.out, h1]), HE.out⟩
    · go_wp2
      go_ret
      exact ⟨ret_bool (by simp [formB, Ht.out]; omega), HE.out⟩
  | false =>
    by_cases h1 : i.op = 20
    · have n1 : (i.op == 20) = true := by simpa using h1
      have HH := hid h1
      clear h1
      by_cases h2 : i.form = 1
      · have n2 : (i.form == 1) = true := by simpa using h2
        have HH2 := hid h2
        clear h2
        go_wp2
        go_ret
        exact ⟨ret_bool (by simp [formB, Ht.out, HH.out, HH2.out] <;> try rfl), HE.out⟩
      · have n2 : (i.form == 1) = false := by simpa using h2
        have HH2 := hid h2
        clear h2
        go_wp2
        go_ret
        exact ⟨ret_bool (by simp [formB, Ht.out, HH.out, HH2.out] <;> try rfl), HE.out⟩
    · have n1 : (i.op == 20) = false := by simpa using h1
      have HH := hid h1
      clear h1
      go_wp2
      go_ret
      exact ⟨ret_bool (by simp [formB, Ht.out, HH.out] <;> try rfl), HE.out⟩
theorem rwidth_any (w : World) (i : In) : Calls Tryz.prog 116 #[inV i] w fun e w' => e = .returned (.bool (widthB i)) ∧ Ext w w' := by
  obtain ⟨W0, hW0⟩ : ∃ W0, w.alloc (.cells #[.int .u32 i.addr, .int .u32 i.imm, .int .i64 i.op, .int .i64 i.form, .int .i64 i.width, .int .i64 i.cc, .int .i64 i.a, .int .i64 i.b, .int .i64 i.size] 77) = W0 := ⟨_, rfl⟩
  have hE : Ext w W0 := by rw [← hW0]; exact (Ext.refl w).alloc _
  have hB : Box9 W0 w.heap.size i := by rw [← hW0]; exact Box9.new w i _
  have HE := hid hE
  obtain ⟨c0, c1, c2, c3, c4, c5, c6, c7, c8⟩ := hB
  have e : inV i = .agg #[.int .u32 i.addr, .int .u32 i.imm, .int .i64 i.op, .int .i64 i.form, .int .i64 i.width, .int .i64 i.cc, .int .i64 i.a, .int .i64 i.b, .int .i64 i.size] := rfl
  rw [e]
  clear e hE
  go_enter Tryz.func116, Tryz.ntmps116
  by_cases h1 : i.op = 17
  · have n1 : (i.op == 17) = true := by simpa using h1
    have HH := hid h1
    clear h1
    by_cases h2 : i.width = 1
    · have n2 : (i.width == 1) = true := by simpa using h2
      have HH2 := hid h2
      clear h2
      go_wp2
      go_ret
      exact ⟨ret_bool (by simp [widthB, HH.out, HH2.out] <;> try rfl), HE.out⟩
    · have n2 : (i.width == 1) = false := by simpa using h2
      have HH2 := hid h2
      clear h2
      go_wp2
      go_ret
      exact ⟨ret_bool (by simp [widthB, HH.out, HH2.out] <;> try rfl), HE.out⟩
  · have n1 : (i.op == 17) = false := by simpa using h1
    have HH := hid h1
    clear h1
    go_wp2_with fail
    refine (acc_any _ _).mono ?_
    rintro e w1 ⟨rfl, hw1⟩
    subst hw1
    obtain ⟨t, ht⟩ : ∃ b, accB i.op = b := ⟨_, rfl⟩
    rw [ht]
    have Ht := hid ht
    clear ht
    clear hW0 c0 c1 c3 c5 c6 c7 c8
    cases t with
    | true =>
      by_cases h2 : i.width = 1
      · have n2 : (i.width == 1) = true := by simpa using h2
        have HH2 := hid h2
        clear h2
        go_wp2
        go_ret
        exact ⟨ret_bool (by simp [widthB, Ht.out, HH.out, HH2.out] <;> try rfl), HE.out⟩
      · have n2 : (i.width == 1) = false := by simpa using h2
        have HH2 := hid h2
        clear h2
        by_cases h3 : i.width = 2
        · have n3 : (i.width == 2) = true := by simpa using h3
          have HH3 := hid h3
          clear h3
          go_wp2
          go_ret
          exact ⟨ret_bool (by simp [widthB, Ht.out, HH.out, HH2.out, HH3.out] <;> try rfl), HE.out⟩
        · have n3 : (i.width == 2) = false := by simpa using h3
          have HH3 := hid h3
          clear h3
          go_wp2
          go_ret
          exact ⟨ret_bool (by simp [widthB, Ht.out, HH.out, HH2.out, HH3.out] <;> try rfl), HE.out⟩
    | false =>
      go_wp2
      go_ret
      exact ⟨ret_bool (by simp [widthB, Ht.out, HH.out] <;> try rfl), HE.out⟩
theorem rhasb_any (w : World) (i : In) : Calls Tryz.prog 119 #[inV i] w fun e w' => e = .returned (.bool (hasBB i)) ∧ Ext w w' := by
  obtain ⟨W0, hW0⟩ : ∃ W0, w.alloc (.cells #[.int .u32 i.addr, .int .u32 i.imm, .int .i64 i.op, .int .i64 i.form, .int .i64 i.width, .int .i64 i.cc, .int .i64 i.a, .int .i64 i.b, .int .i64 i.size] 77) = W0 := ⟨_, rfl⟩
  have hE : Ext w W0 := by rw [← hW0]; exact (Ext.refl w).alloc _
  have hB : Box9 W0 w.heap.size i := by rw [← hW0]; exact Box9.new w i _
  have HE := hid hE
  obtain ⟨c0, c1, c2, c3, c4, c5, c6, c7, c8⟩ := hB
  have e : inV i = .agg #[.int .u32 i.addr, .int .u32 i.imm, .int .i64 i.op, .int .i64 i.form, .int .i64 i.width, .int .i64 i.cc, .int .i64 i.a, .int .i64 i.b, .int .i64 i.size] := rfl
  rw [e]
  clear e hE
  go_enter Tryz.func119, Tryz.ntmps119
  go_wp2_with fail
  refine (two_any _ _).mono ?_
  rintro e w1 ⟨rfl, hw1⟩
  subst hw1
  obtain ⟨t, ht⟩ : ∃ b, twoB i.op = b := ⟨_, rfl⟩
  rw [ht]
  have Ht := hid ht
  clear ht
  clear hW0 c0 c1 c4 c5 c6 c7 c8
  have key : (t = true ∧ i.form = 0) ∨ (t = true ∧ ¬ i.form = 0) ∨ t = false := by
    cases t <;> simp; omega
  rcases key with ⟨rfl, h1⟩ | ⟨rfl, h1⟩ | rfl
  · have n1 : (i.form == 0) = true := by simpa using h1
    have HH := hid h1
    clear h1
    go_wp2
    go_ret
    exact ⟨ret_bool (by simp [hasBB, Ht.out, HH.out] <;> try rfl), HE.out⟩
  · have n1 : (i.form == 0) = false := by simpa using h1
    have HH := hid h1
    clear h1
    go_wp2_with fail
    refine (acc_any _ _).mono ?_
    rintro e w1 ⟨rfl, hw1⟩
    subst hw1
    obtain ⟨u, hu⟩ : ∃ b, accB i.op = b := ⟨_, rfl⟩
    rw [hu]
    have Hu := hid hu
    clear hu
    cases u with
    | true => 
      go_wp2
      go_ret
      exact ⟨ret_bool (by simp [hasBB, Ht.out, HH.out, Hu.out] <;> try rfl), HE.out⟩
    | false =>
      go_wp2
      go_ret
      exact ⟨ret_bool (by simp [hasBB, Ht.out, HH.out, Hu.out] <;> try rfl), HE.out⟩
  · go_wp2_with fail
    refine (acc_any _ _).mono ?_
    rintro e w1 ⟨rfl, hw1⟩
    subst hw1
    obtain ⟨u, hu⟩ : ∃ b, accB i.op = b := ⟨_, rfl⟩
    rw [hu]
    have Hu := hid hu
    clear hu
    cases u with
    | true => 
      go_wp2
      go_ret
      exact ⟨ret_bool (by simp [hasBB, Ht.out, Hu.out] <;> try rfl), HE.out⟩
    | false =>
      go_wp2
      go_ret
      exact ⟨ret_bool (by simp [hasBB, Ht.out, Hu.out] <;> try rfl), HE.out⟩
end Go.Proofs.YtnlmhnbogleijaaGreatDoor

namespace Go.Proofs.YtnlmhnbogleijaaGreatDoor
open Go.RowKit Go.Deco
set_option linter.unusedSimpArgs false
set_option linter.unusedVariables false

def r3Err (i : In) : Nat :=
  if i.op < 0 ∨ 27 < i.op ∨ formB i = false ∨ widthB i = false then 2
  else if (hasAB i.op = true ∧ regB i.a = false) ∨ (hasAB i.op = false ∧ i.a ≠ 0) ∨ (hasBB i = true ∧ regB i.b = false) ∨ (hasBB i = false ∧ i.b ≠ 0) then 2
  else if (hasCcB i.op = true ∧ ccB i.cc = false) ∨ (hasCcB i.op = false ∧ i.cc ≠ 0) ∨ (hasImmB i = false ∧ i.imm ≠ 0) then 2
  else if ((twoB i.op = true ∧ i.form = 1) ∨ accB i.op = true ∨ i.op = 19) ∧ narrowB i.imm = false then 7
  else if i.op = 20 ∧ i.form = 1 ∧ narrowB (w32d ((i.imm : Int) - i.addr - 2)) = false then 7
  else 0
def r3Size (i : In) : Nat :=
  if twoB i.op = true then (if i.form = 0 then 2 else if i.form = 1 then 3 else 6)
  else if accB i.op = true then 3
  else if i.op = 19 then 3
  else if i.op = 20 then (if i.form = 1 then 2 else 5)
  else if i.op = 23 then 5
  else if i.op = 22 then 6
  else if i.op = 24 ∨ i.op = 21 ∨ i.op = 25 ∨ i.op = 26 ∨ i.op = 27 then 2
  else 1
def r3Len (i : In) : Nat := if r3Err i = 0 then r3Size i else 0
theorem reg0 : regB 0 = true := rfl
theorem cc_lt {n : Int} : ccB n = false ↔ (n < 0 ∨ 14 < n) := by
  unfold ccB
  rw [Bool.and_eq_false_iff]
  simp
theorem isaErr_op {i : In} : isaErr i = r3Err i ∧ (r3Err i = 0 → shapeLen ((opShape i).getD 0) = r3Size i) := by
  obtain ⟨addr, imm, op, form, width, cc, a, b, size⟩ := i
  by_cases h0 : op < 0 ∨ 27 < op
  · have e : opShape ⟨addr, imm, op, form, width, cc, a, b, size⟩ = none := by
      simp only [opShape]
      rw [if_neg (by omega), if_neg (by omega), if_neg (by omega), if_neg (by omega), if_neg (by omega), if_neg (by omega), if_neg (by omega), if_neg (by omega), if_neg (by omega), if_neg (by omega)]
    have e2 : r3Err ⟨addr, imm, op, form, width, cc, a, b, size⟩ = 2 := by
      unfold r3Err
      rw [if_pos (by rcases h0 with h | h <;> simp [h])]
    rw [isaErr, e, e2]
    exact ⟨rfl, fun h => by cases h⟩
  · have hop : (op = 5 ∨ op = 6 ∨ op = 7 ∨ op = 8 ∨ op = 9 ∨ op = 10 ∨ op = 11 ∨ op = 12 ∨ op = 13 ∨ op = 14 ∨ op = 15) ∨ (op = 16 ∨ op = 17 ∨ op = 18) ∨ (op = 0 ∨ op = 1 ∨ op = 2 ∨ op = 3 ∨ op = 4 ∨ op = 19 ∨ op = 20 ∨ op = 21 ∨ op = 22 ∨ op = 23 ∨ op = 24 ∨ op = 25 ∨ op = 26 ∨ op = 27) := by omega
    have ha0 : a = 0 → regB a = true := fun h => by rw [h]; rfl
    have hb0 : b = 0 → regB b = true := fun h => by rw [h]; rfl
    clear h0
    rcases hop with hop | hop | hop
    · have hf : form = 0 ∨ form = 1 ∨ form = 2 ∨ (form < 0 ∨ 2 < form) := by omega
      rcases hf with rfl | rfl | rfl | hf
      · rcases hop with rfl | rfl | rfl | rfl | rfl | rfl | rfl | rfl | rfl | rfl | rfl <;> simp [isaErr, opShape, r3Err, r3Size, keptI, keptS, shapeLen, formB, widthB, hasAB, hasBB, hasCcB, hasImmB, twoB, accB, reg0, In.mk.injEq, cc_lt] <;> grind
      · rcases hop with rfl | rfl | rfl | rfl | rfl | rfl | rfl | rfl | rfl | rfl | rfl <;> simp [isaErr, opShape, r3Err, r3Size, keptI, keptS, shapeLen, formB, widthB, hasAB, hasBB, hasCcB, hasImmB, twoB, accB, reg0, In.mk.injEq, cc_lt] <;> grind
      · rcases hop with rfl | rfl | rfl | rfl | rfl | rfl | rfl | rfl | rfl | rfl | rfl <;> simp [isaErr, opShape, r3Err, r3Size, keptI, keptS, shapeLen, formB, widthB, hasAB, hasBB, hasCcB, hasImmB, twoB, accB, reg0, In.mk.injEq, cc_lt] <;> grind
      · have f0 : ¬ form = 0 := by omega
        have f1 : ¬ form = 1 := by omega
        have f2 : ¬ form = 2 := by omega
        rcases hop with rfl | rfl | rfl | rfl | rfl | rfl | rfl | rfl | rfl | rfl | rfl <;> simp [isaErr, opShape, r3Err, r3Size, keptI, keptS, shapeLen, formB, widthB, hasAB, hasBB, hasCcB, hasImmB, twoB, accB, reg0, In.mk.injEq, cc_lt, f0, f1, f2] <;> grind
    · have hw : width = 1 ∨ width = 2 ∨ width = 4 ∨ (¬ width = 1 ∧ ¬ width = 2 ∧ ¬ width = 4) := by omega
      rcases hw with rfl | rfl | rfl | ⟨w1, w2, w3⟩
      · rcases hop with rfl | rfl | rfl <;> simp [isaErr, opShape, r3Err, r3Size, keptI, keptS, shapeLen, formB, widthB, hasAB, hasBB, hasCcB, hasImmB, twoB, accB, reg0, In.mk.injEq, cc_lt] <;> grind
      · rcases hop with rfl | rfl | rfl <;> simp [isaErr, opShape, r3Err, r3Size, keptI, keptS, shapeLen, formB, widthB, hasAB, hasBB, hasCcB, hasImmB, twoB, accB, reg0, In.mk.injEq, cc_lt] <;> grind
      · rcases hop with rfl | rfl | rfl <;> simp [isaErr, opShape, r3Err, r3Size, keptI, keptS, shapeLen, formB, widthB, hasAB, hasBB, hasCcB, hasImmB, twoB, accB, reg0, In.mk.injEq, cc_lt] <;> grind
      · rcases hop with rfl | rfl | rfl <;> simp [isaErr, opShape, r3Err, r3Size, keptI, keptS, shapeLen, formB, widthB, hasAB, hasBB, hasCcB, hasImmB, twoB, accB, reg0, In.mk.injEq, cc_lt, w1, w2, w3] <;> grind
    · have hf : form = 0 ∨ form = 1 ∨ form = 2 ∨ (¬ form = 0 ∧ ¬ form = 1 ∧ ¬ form = 2) := by omega
      have hc : (¬ (cc < 0 ∨ 14 < cc)) ∨ (cc < 0 ∨ 14 < cc) := by omega
      rcases hop with rfl | rfl | rfl | rfl | rfl | rfl | rfl | rfl | rfl | rfl | rfl | rfl | rfl | rfl
      all_goals (rcases hf with rfl | rfl | rfl | ⟨f0, f1, f2⟩ <;> rcases hc with hc | hc <;> simp [isaErr, opShape, r3Err, r3Size, keptI, keptS, shapeLen, formB, widthB, hasAB, hasBB, hasCcB, hasImmB, twoB, accB, reg0, In.mk.injEq, cc_lt, *] <;> grind)
theorem r3Len_eq (i : In) : r3Len i = isaLen i := by
  obtain ⟨h1, h2⟩ := isaErr_op (i := i)
  unfold r3Len isaLen
  rw [h1]
  split
  · rename_i h
    rw [h2 h]
  · rfl
end Go.Proofs.YtnlmhnbogleijaaGreatDoor
