/- The reference: Callees, Callers; the law's in; the statement FuncsCalls. -/
import Derived.Test.YtnlmhnbogleijaaFunF
import Derived.Test.YtnlmhnbogleijaaInsS
namespace Go.Proofs.Ytnlmhnbogleijaa
open Go.RowKit Go.Deco
set_option linter.unusedSimpArgs false
set_option linter.unusedVariables false

theorem ixFn_is (l : List Fn18) (a : Nat) : decide (0 ≤ ixFn l a) = (fnd l a).isSome := by
  rcases ixFn_cases l a with ⟨h1, h2⟩ | ⟨k, f, h1, _, h2⟩
  · rw [h1, h2]; rfl
  · rw [h1, h2]; simp
theorem ixFn_small (l : List Fn18) (a : Nat) : -1 ≤ ixFn l a ∧ ixFn l a < l.length + 1 := by
  rcases ixFn_cases l a with ⟨h1, h2⟩ | ⟨k, f, h1, h2, _⟩
  · rw [h1]; omega
  · rw [h1]
    have := (List.getElem?_eq_some_iff.1 h2).1
    omega

set_option maxRecDepth 100000 in
set_option maxHeartbeats 2000000 in
theorem rcalleesS_any (w : World) (A : Option Addr) (n c : Nat) (l : List Fn18) (hl : Sl fnR w All (.slice A n c) l) (hc : ∀ f ∈ l, f.calls.length ≤ 1000) (a : Nat) :
    Calls Try.prog 15 #[.slice A n c, .int .u32 a] w (ListIn (fun b => w.heap.size ≤ b) w (calleesOf l a)) := by
  have hln := hl.len
  obtain ⟨hnc, hcm⟩ := hl.cap
  obtain ⟨L, hL⟩ : ∃ L, calleesOf l a = L := ⟨_, rfl⟩
  rw [hL]
  have HLL := hid hL; clear hL
  have HS := hid hl; clear hl
  have HL := hid hln; clear hln
  have HC := hid hc; clear hc
  have hix := ixFn_cases l a
  obtain ⟨i, hi⟩ : ∃ i, ixFn l a = i := ⟨_, rfl⟩
  rw [hi] at hix
  have HI := hid hi; clear hi
  have HIX := hid hix; clear hix
  go_enter Try.func15, Try.ntmps15
  go_wp2_with fail
  refine (rindex_any w All A n c l HS.out a).mono ?_
  rintro e w1 ⟨rfl, rfl⟩
  rw [HI.out]
  rcases HIX.out with ⟨rfl, hno⟩ | ⟨q, f, rfl, hq, hf⟩
  · have HN := hid hno; clear hno
    go_wp2
    go_ret
    have : L = [] := by rw [← HLL.out, calleesOf, HN.out]
    subst this
    exact ⟨Ext.refl w, none, 0, rfl, Sl.nil⟩
  · obtain ⟨b, off, bA, bc, cA, cc, rfl, -, hcl, hel, -, c0, c1, c2, c3, c4⟩ := Sl_fn_at HS.out hq
    have hqn : q < n := by have := (List.getElem?_eq_some_iff.1 hq).1; have := HL.out; omega
    have hfc := HC.out f (List.mem_of_getElem? hq)
    have hLf : L = asc (f.calls.filter fun c => (fnd l c).isSome) := by rw [← HLL.out, calleesOf, hf]
    have HLF := hid hLf
    have HF := hid hf
    have HCL := hid hcl
    have hcc := hcl.cap
    have hcc1 := hcc.1
    have hcc2 := hcc.2
    have C3 := hid c3
    obtain ⟨N, hN⟩ : ∃ N, f.calls.length = N := ⟨_, rfl⟩
    rw [hN] at HCL C3 hcc1 hfc c3
    have HN := hid hN
    clear hN hLf hf hcl hcc hq c0 c1 c2 c4
    go_wp2
    go_loopw [5, 7] (fun v i wr => ∃ (j : Nat) (A' : Option Addr) (c' : Nat) (M : List Nat), j ≤ N ∧ i = .int .i64 j ∧ v = .slice A' M.length c' ∧ Hid (Sl u32R wr (fun b => w.heap.size ≤ b) (.slice A' M.length c') M) ∧ Hid (Ext w wr) ∧ Hid (M = asc ((f.calls.take j).filter fun c => (fnd l c).isSome))) (fun _ i _ => N - (intOf i).toNat)
    case atStart => exact ⟨0, none, 0, [], by omega, rfl, rfl, hid Sl.nil, hid (Ext.refl _), hid (by simp [asc])⟩
    case round =>
      obtain ⟨j, A', c', M, hj, rfl, rfl, hs, hx, hM⟩ := hrel
      have c3 := hx.out.cell C3.out
      by_cases h1 : j < N
      · obtain ⟨x, hx'⟩ : ∃ x, f.calls[j]? = some x := ⟨_, List.getElem?_eq_getElem (by have := HN.out; omega)⟩
        obtain ⟨b2, off2, rfl, cx, hx32⟩ := HCL.out.num_at hx'
        have cx := hx.out.cell cx
        have HXJ := hid hx'; clear hx'
        have hMl : M.length ≤ 1000 := by
          have h2 := asc_len ((f.calls.take j).filter fun c => (fnd l c).isSome)
          have h3 := List.length_filter_le (fun c => (fnd l c).isSome) (f.calls.take j)
          rw [List.length_take] at h3
          rw [hM.out]
          omega
        have hsn : ((f.calls.take (j + 1)).filter fun c => (fnd l c).isSome) = ((f.calls.take j).filter fun c => (fnd l c).isSome) ++ (if (fnd l x).isSome then [x] else []) := by
          rw [take_snoc' HXJ.out, List.filter_append, List.filter_cons]
          cases (fnd l x).isSome <;> rfl
        have hixx := ixFn_is l x
        have hixs := ixFn_small l x
        obtain ⟨z, hz⟩ : ∃ z, ixFn l x = z := ⟨_, rfl⟩
        rw [hz] at hixx hixs
        have HZ := hid hz; clear hz
        have hz1 := hixs.1
        obtain ⟨is, his⟩ : ∃ is, (fnd l x).isSome = is := ⟨_, rfl⟩
        rw [his] at hixx hsn
        have HSN := hid hsn; clear hsn his hixs
        go_wp2_with fail
        refine (rindex_any wr All _ n c l (HS.out.ext hx.out) x).mono ?_
        rintro e w1 ⟨rfl, rfl⟩
        rw [HZ.out]
        cases is with
        | false =>
          have hz2 : ¬ (0 ≤ z) := by simpa using hixx
          clear hixx
          go_wp2
          first
            | go_roundw
            | refine ⟨?rel, ?measure⟩
          case rel => exact ⟨j + 1, A', c', M, by omega, by go_num, rfl, hs, hx, hid (by rw [HSN.out]; simpa using hM.out)⟩
          case measure => simp [intOf]; omega
        | true =>
          have hz2 : 0 ≤ z := by simpa using hixx
          clear hixx
          go_wp2_with fail
          refine (inserts_any (fun b => w.heap.size ≤ b) wr wr (Ext.refl _) (fun b hb => Nat.le_trans hx.out.size hb) A' M.length c' M hs.out (by omega) x hx32).mono ?_
          rintro e w1 ⟨hx1, A1, c1', rfl, hs1⟩
          have HX1 := hid (hx.out.trans hx1)
          have HS1 := hid hs1
          clear hx1 hs1
          go_wp2
          first
            | go_roundw
            | refine ⟨?rel, ?measure⟩
          case rel => exact ⟨j + 1, A1, c1', insOf M x, by omega, by go_num, rfl, HS1, HX1, hid (by rw [HSN.out, hM.out]; exact (asc_snoc _ _).symm)⟩
          case measure => simp [intOf]; omega
      · obtain rfl : j = N := by omega
        have e1 : f.calls.take j = f.calls := List.take_of_length_le (by have := HN.out; omega)
        have hML : M = L := by rw [hM.out, e1, HLF.out]
        subst hML
        go_wp2
        go_ret
        exact ⟨hx.out, A', c', rfl, hs.out⟩

theorem rcallees_any (w : World) (A : Option Addr) (n c : Nat) (l : List Fn18) (hl : Sl fnR w All (.slice A n c) l) (hc : ∀ f ∈ l, f.calls.length ≤ 1000) (a : Nat) :
    Calls Try.prog 15 #[.slice A n c, .int .u32 a] w (ListOf w (calleesOf l a)) :=
  (rcalleesS_any w A n c l hl hc a).mono fun e w' ⟨h1, A', c', h2, h3⟩ => ⟨h1, A', c', h2, h3.all⟩

theorem callers_eq {l : List Fn18} {a : Nat} (h : (fnd l a).isSome = true) : callersOf l a = asc ((entriesOf l).filter fun e => (calleesOf l e).contains a) := by rw [callersOf, if_pos h]

set_option maxRecDepth 100000 in
set_option maxHeartbeats 2000000 in
theorem rcallers_any (w : World) (A : Option Addr) (n c : Nat) (l : List Fn18) (hl : Sl fnR w All (.slice A n c) l) (hn : n ≤ 1000) (hc : ∀ f ∈ l, f.calls.length ≤ 1000) (a : Nat) :
    Calls Try.prog 21 #[.slice A n c, .int .u32 a] w (ListOf w (callersOf l a)) := by
  have hlen := hl.len
  obtain ⟨L, hL⟩ : ∃ L, callersOf l a = L := ⟨_, rfl⟩
  rw [hL]
  have HLL := hid hL; clear hL
  have hel : (entriesOf l).length ≤ 1000 := by
    have := asc_len (l.map (·.entry))
    rw [List.length_map] at this
    rw [entriesOf]
    omega
  obtain ⟨E, hE⟩ : ∃ E, entriesOf l = E := ⟨_, rfl⟩
  rw [hE] at hel
  have HE := hid hE; clear hE
  have HS := hid hl; clear hl hlen
  have HC := hid hc; clear hc
  have hix := ixFn_is l a
  obtain ⟨i, hi⟩ : ∃ i, ixFn l a = i := ⟨_, rfl⟩
  rw [hi] at hix
  have HI := hid hi; clear hi
  obtain ⟨is, his⟩ : ∃ is, (fnd l a).isSome = is := ⟨_, rfl⟩
  rw [his] at hix
  have HIS := hid his; clear his
  go_enter Try.func21, Try.ntmps21
  go_wp2_with fail
  refine (rindex_any w All A n c l HS.out a).mono ?_
  rintro e w1 ⟨rfl, rfl⟩
  rw [HI.out]
  cases is with
  | false =>
    have hz2 : ¬ (0 ≤ i) := by simpa using hix
    clear hix
    go_wp2
    go_ret
    have : L = [] := by rw [← HLL.out, callersOf, HIS.out]; rfl
    subst this
    exact ⟨Ext.refl w, none, 0, rfl, Sl.nil⟩
  | true =>
    have hz2 : 0 ≤ i := by simpa using hix
    clear hix
    have hLe := callers_eq HIS.out
    rw [HLL.out, HE.out] at hLe
    have HLE := hid hLe; clear hLe
    go_wp2_with fail
    refine (rentries_any w A n c l HS.out hn).mono ?_
    rintro e w2 ⟨hx2, eA, ec, rfl, hs2⟩
    rw [HE.out] at hs2 ⊢
    have HX2 := hid hx2
    have HS2 := hid hs2
    have hcap := hs2.cap
    have hcap1 := hcap.1
    have hcap2 := hcap.2
    obtain ⟨N, hN⟩ : ∃ N, E.length = N := ⟨_, rfl⟩
    rw [hN] at HS2 hcap1 hel ⊢
    have HN := hid hN
    clear hx2 hs2 hcap hN
    go_wp2
    go_loopw [5, 7] (fun v i wr => ∃ (j : Nat) (A' : Option Addr) (c' : Nat) (M : List Nat), j ≤ N ∧ i = .int .i64 j ∧ v = .slice A' M.length c' ∧ Hid (Sl u32R wr All (.slice A' M.length c') M) ∧ Hid (Ext w2 wr) ∧ Hid (M = asc ((E.take j).filter fun e => (calleesOf l e).contains a))) (fun _ i _ => N - (intOf i).toNat)
    case atStart => exact ⟨0, none, 0, [], by omega, rfl, rfl, hid Sl.nil, hid (Ext.refl _), hid (by simp [asc])⟩
    case round =>
      obtain ⟨j, A', c', M, hj, rfl, rfl, hs, hx, hM⟩ := hrel
      by_cases h1 : j < N
      · obtain ⟨x, hx'⟩ : ∃ x, E[j]? = some x := ⟨_, List.getElem?_eq_getElem (by have := HN.out; omega)⟩
        obtain ⟨b2, off2, rfl, cx, hx32⟩ := HS2.out.num_at hx'
        have CX := hid cx
        have cx := hx.out.cell cx
        have HXJ := hid hx'; clear hx'
        have hMl : M.length ≤ 1000 := by
          have h2 := asc_len ((E.take j).filter fun e => (calleesOf l e).contains a)
          have h3 := List.length_filter_le (fun e => (calleesOf l e).contains a) (E.take j)
          rw [List.length_take] at h3
          rw [hM.out]
          omega
        have hsn : ((E.take (j + 1)).filter fun e => (calleesOf l e).contains a) = ((E.take j).filter fun e => (calleesOf l e).contains a) ++ (if (calleesOf l x).contains a then [x] else []) := by
          rw [take_snoc' HXJ.out, List.filter_append, List.filter_cons]
          cases (calleesOf l x).contains a <;> rfl
        have HSN := hid hsn; clear hsn
        go_wp2_with fail
        refine (rcallees_any wr A n c l ((HS.out.ext HX2.out).ext hx.out) HC.out x).mono ?_
        rintro e w3 ⟨hx3, A3, c3, rfl, hs3⟩
        have HX3 := hid (hx.out.trans hx3)
        have HS3 := hid hs3
        have HSM := hid (hs.out.ext hx3)
        obtain ⟨D, hD⟩ : ∃ D, calleesOf l x = D := ⟨_, rfl⟩
        rw [hD] at HSN HS3 ⊢
        clear hx3 hs3 hD cx
        have cx := HX3.out.cell CX.out
        go_wp2_with fail
        refine (has_any w3 All A3 D.length c3 D HS3.out a).mono ?_
        rintro e w4 ⟨rfl, rfl⟩
        obtain ⟨r, hr⟩ : ∃ r, D.contains a = r := ⟨_, rfl⟩
        rw [hr] at HSN ⊢
        clear hr
        cases r with
        | false =>
          go_wp2
          first
            | go_roundw
            | refine ⟨?rel, ?measure⟩
          case rel => exact ⟨j + 1, A', c', M, by omega, by go_num, rfl, HSM, HX3, hid (by rw [HSN.out]; simpa using hM.out)⟩
          case measure => simp [intOf]; omega
        | true =>
          go_wp2_with fail
          refine (insert_any w3 w3 (Ext.refl _) A' M.length c' M HSM.out (by omega) x hx32).mono ?_
          rintro e w5 ⟨hx5, A1, c1', rfl, hs5⟩
          have HX5 := hid (HX3.out.trans hx5)
          have HS5 := hid hs5
          clear hx5 hs5
          go_wp2
          first
            | go_roundw
            | refine ⟨?rel, ?measure⟩
          case rel => exact ⟨j + 1, A1, c1', insOf M x, by omega, by go_num, rfl, HS5, HX5, hid (by rw [HSN.out, hM.out]; exact (asc_snoc _ _).symm)⟩
          case measure => simp [intOf]; omega
      · obtain rfl : j = N := by omega
        have e1 : E.take j = E := List.take_of_length_le (by have := HN.out; omega)
        have hML : M = L := by rw [hM.out, e1, HLE.out]
        subst hML
        go_wp2
        go_ret
        exact ⟨HX2.out.trans hx.out, A', c', rfl, hs.out⟩


theorem calls_match (l : List Fn18) (x y : Nat) : ((calleesOf l x).contains y == (callersOf l y).contains x) = true := by
  rw [beq_iff_eq, Bool.eq_iff_iff]
  simp only [List.contains_iff_mem]
  exact callers_mem.symm

set_option maxRecDepth 100000 in
set_option maxHeartbeats 4000000 in
theorem calls_any (w : World) (A : Option Addr) (n c : Nat) (l : List Fn18) (hl : Sl fnR w All (.slice A n c) l) (x : Nat) (hx : x < 4294967296) (y : Nat) (hy : y < 4294967296) :
    Calls Try.prog 5 #[.slice A n c, .int .u32 x, .int .u32 y] w (OneBool w true) := by
  have HL := hid hl; clear hl
  go_enter Try.func5, Try.ntmps5
  go_wp2_with fail
  refine (few_any w A n c l HL.out).mono ?_
  rintro e w' ⟨⟨b, rfl, hb⟩, rfl⟩
  cases b
  case' false =>
    clear hb
    go_wp2_with fail
    refine (example_any _).mono ?_
    rintro e w1 ⟨rfl, hx⟩
    have HX := hid hx; clear hx
    go_wp2
    go_ret
    exact ⟨rfl, HX.out⟩
  have hn10 : n ≤ 10 := (hb rfl).1
  have HB12 := hid (hb rfl).2
  clear hb
  have HC := hid (show ∀ f ∈ l, f.calls.length ≤ 1000 from fun f hf => by have := (HB12.out f hf).2; omega)
  obtain ⟨C, hC⟩ : ∃ C, calleesOf l x = C := ⟨_, rfl⟩
  obtain ⟨D, hD⟩ : ∃ D, callersOf l y = D := ⟨_, rfl⟩
  have hm := calls_match l x y
  rw [hC, hD] at hm
  have HCE := hid hC; clear hC
  have HDE := hid hD; clear hD
  have HM := hid hm; clear hm
  go_wp2_with fail
  refine (from_any w A n c l HL.out (by omega)).mono ?_
  rintro e w1 ⟨hx1, fA, fc, rfl, hs1⟩
  have HX1 := hid hx1
  have HS1 := hid hs1
  have hln : l.length = n := by rw [HL.out.len]
  rw [hln] at HS1 ⊢
  clear hx1 hs1 hln
  go_wp2_with fail
  refine (callees_any w1 w1 (Ext.refl _) fA n fc l HS1.out (by omega) HC.out x).mono ?_
  rintro e w2 ⟨hx2, cA, cc, rfl, hs2⟩
  rw [HCE.out] at hs2 ⊢
  have HX2 := hid hx2
  have HS2 := hid hs2
  clear hx2 hs2
  go_wp2_with fail
  refine (callers_any w1 w2 HX2.out fA n fc l HS1.out (by omega) HC.out y).mono ?_
  rintro e w3 ⟨hx3, dA, dc, rfl, hs3⟩
  rw [HDE.out] at hs3 ⊢
  have HX3 := hid (HX1.out.trans (HX2.out.trans hx3))
  have HC3 := hid (HS2.out.ext hx3)
  have HS3 := hid hs3
  clear hx3 hs3
  go_wp2_with fail
  refine (rcallees_any w3 A n c l (HL.out.ext HX3.out) HC.out x).mono ?_
  rintro e w4 ⟨hx4, eA, ec, rfl, hs4⟩
  rw [HCE.out] at hs4 ⊢
  have HX4 := hid (HX3.out.trans hx4)
  have HC4 := hid (HC3.out.ext hx4)
  have HD4 := hid (HS3.out.ext hx4)
  have HS4 := hid hs4
  clear hx4 hs4
  go_wp2_with fail
  refine (words_any w4 w4 (Ext.refl _) cA eA C.length C.length cc ec C C HC4.out HS4.out).mono ?_
  rintro e w5 ⟨rfl, hx5⟩
  have hd : decide (C = C) = true := by simp
  rw [hd]
  have HX5 := hid (HX4.out.trans hx5)
  have HC5 := hid (HC4.out.ext hx5)
  have HD5 := hid (HD4.out.ext hx5)
  clear hx5 hd
  go_wp2_with fail
  refine (rcallers_any w5 A n c l (HL.out.ext HX5.out) (by omega) HC.out y).mono ?_
  rintro e w6 ⟨hx6, gA, gc, rfl, hs6⟩
  rw [HDE.out] at hs6 ⊢
  have HX6 := hid (HX5.out.trans hx6)
  have HC6 := hid (HC5.out.ext hx6)
  have HD6 := hid (HD5.out.ext hx6)
  have HS6 := hid hs6
  clear hx6 hs6
  go_wp2_with fail
  refine (words_any w6 w6 (Ext.refl _) dA gA D.length D.length dc gc D D HD6.out HS6.out).mono ?_
  rintro e w7 ⟨rfl, hx7⟩
  have hd : decide (D = D) = true := by simp
  rw [hd]
  have HX7 := hid (HX6.out.trans hx7)
  have HC7 := hid (HC6.out.ext hx7)
  have HD7 := hid (HD6.out.ext hx7)
  clear hx7 hd
  go_wp2_with fail
  refine (has_any w7 All cA C.length cc C HC7.out y).mono ?_
  rintro e w8 ⟨rfl, rfl⟩
  obtain ⟨p, hp⟩ : ∃ p, C.contains y = p := ⟨_, rfl⟩
  rw [hp]
  have HPP := hid hp; clear hp
  go_wp2_with fail
  refine (has_any w7 All dA D.length dc D HD7.out x).mono ?_
  rintro e w8 ⟨rfl, rfl⟩
  obtain ⟨q, hq⟩ : ∃ q, D.contains x = q := ⟨_, rfl⟩
  rw [hq]
  have hpq : p = q := by
    have := HM.out
    rw [HPP.out, hq] at this
    simpa using this
  clear hq
  subst hpq
  have hpp : (p == p) = true := by simp
  go_wp2_with fail
  refine (example_any _).mono ?_
  rintro e w9 ⟨rfl, hx9⟩
  have HX9 := hid (HX7.out.trans hx9)
  clear hx9
  go_wp2
  go_ret
  exact ⟨rfl, HX9.out⟩
end Go.Proofs.Ytnlmhnbogleijaa
