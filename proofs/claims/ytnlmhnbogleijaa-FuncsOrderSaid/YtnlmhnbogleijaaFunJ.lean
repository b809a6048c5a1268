/- The law's in; the statement FuncsOrder. -/
import Derived.Test.YtnlmhnbogleijaaFunI
namespace Go.Proofs.Ytnlmhnbogleijaa
open Go.RowKit Go.Deco
set_option linter.unusedSimpArgs false
set_option linter.unusedVariables false

def inInt (o : List (List Nat)) (a : Nat) : Int := match inOf o a with | some i => (i : Int) | none => -1
theorem inInt_hit {o : List (List Nat)} {a k : Nat} {C : List Nat} (h : ∀ (j : Nat) c, j < k → o[j]? = some c → c.contains a = false) (hk : o[k]? = some C) (hc : C.contains a = true) : inInt o a = k := by
  have : inOf o a = some k := by
    rw [inOf, List.findIdx?_eq_some_iff_getElem]
    obtain ⟨hlt, rfl⟩ := List.getElem?_eq_some_iff.1 hk
    exact ⟨hlt, hc, fun j hj => by have := h j _ hj (List.getElem?_eq_getElem (by omega)); rw [this]; simp⟩
  rw [inInt, this]
theorem inInt_miss {o : List (List Nat)} {a : Nat} (h : ∀ (j : Nat) c, j < o.length → o[j]? = some c → c.contains a = false) : inInt o a = -1 := by
  have : inOf o a = none := by
    rw [inOf, List.findIdx?_eq_none_iff]
    intro c hc
    obtain ⟨j, hj, rfl⟩ := List.getElem_of_mem hc
    exact h j _ hj (List.getElem?_eq_getElem hj)
  rw [inInt, this]

set_option maxRecDepth 100000 in
set_option maxHeartbeats 1000000 in
theorem in_any (w : World) (A : Option Addr) (n c : Nat) (o : List (List Nat)) (hl : Sl (slR u32R) w All (.slice A n c) o) (a : Nat) :
    Calls Try.prog 12 #[.slice A n c, .int .u32 a] w fun e w' => e = .returned (.int .i64 (inInt o a)) ∧ w = w' := by
  have hln := hl.len
  obtain ⟨hnc, hcm⟩ := hl.cap
  obtain ⟨r, hr⟩ : ∃ r, inInt o a = r := ⟨_, rfl⟩
  rw [hr]
  have HR := hid hr; clear hr
  have HS := hid hl; clear hl
  have HL := hid hln; clear hln
  go_enter Try.func12, Try.ntmps12
  go_wp2
  go_loop [5] (fun i => ∃ k : Nat, k ≤ n ∧ i = .int .i64 k ∧ Hid (∀ (j : Nat) c, j < k → o[j]? = some c → c.contains a = false)) (fun i => n - (intOf i).toNat)
  case atStart => exact ⟨0, by omega, rfl, hid (fun j c hj => by omega)⟩
  case round =>
    obtain ⟨k, hk, rfl, ha⟩ := hrel
    by_cases h1 : k < n
    · obtain ⟨C, hC⟩ : ∃ C, o[k]? = some C := ⟨_, List.getElem?_eq_getElem (by have := HL.out; omega)⟩
      obtain ⟨b, off, cA, cc, rfl, q1, hs1⟩ := Sl_ss_at HS.out hC
      have HS1 := hid hs1; clear hs1
      have HK := hid hC; clear hC
      go_wp2_with fail
      refine (has_any w All cA C.length cc C HS1.out a).mono ?_
      rintro e w4 ⟨rfl, rfl⟩
      obtain ⟨p, hp⟩ : ∃ p, C.contains a = p := ⟨_, rfl⟩
      rw [hp]
      have HPP := hid hp; clear hp
      cases p with
      | true =>
        go_wp2
        go_ret
        exact ⟨ret_int (by rw [← HR.out]; exact (inInt_hit ha.out HK.out HPP.out).symm), rfl⟩
      | false =>
        go_wp2
        first
          | go_round
          | refine ⟨?rel, ?measure⟩
        case rel =>
          refine ⟨k + 1, by omega, by go_num, hid fun j c hj hc => ?_⟩
          rcases Nat.lt_or_ge j k with h | h
          · exact ha.out j c h hc
          · obtain rfl : j = k := by omega
            have := HK.out.symm.trans hc
            injection this with this
            rw [← this]
            exact HPP.out
        case measure => simp [intOf]; omega
    · go_wp2
      go_ret
      exact ⟨ret_int (by rw [← HR.out]; exact (inInt_miss (fun j c hj => ha.out j c (by have := HL.out; omega))).symm), rfl⟩

/-- What the order's places say. -/
theorem inInt_some {o : List (List Nat)} {a i : Nat} (h : inOf o a = some i) : inInt o a = i := by rw [inInt, h]
theorem inInt_lt (o : List (List Nat)) (a : Nat) : -1 ≤ inInt o a ∧ inInt o a ≤ o.length := by
  unfold inInt
  cases h : inOf o a with
  | none => simp
  | some i =>
    obtain ⟨c, hc, _⟩ := inOf_some h
    have := (List.getElem?_eq_some_iff.1 hc).1
    simp
    omega

/-- The sum of the components' lengths, as the law adds them. -/
theorem flat_take {o : List (List Nat)} {k : Nat} {C : List Nat} (h : o[k]? = some C) : (o.take (k + 1)).flatten.length = (o.take k).flatten.length + C.length := by
  rw [take_snoc' h, List.flatten_append, List.length_append]
  simp
theorem flat_take_le (o : List (List Nat)) : ∀ k, (o.take k).flatten.length ≤ o.flatten.length := by
  intro k
  have h : o.flatten = (o.take k).flatten ++ (o.drop k).flatten := by rw [← List.flatten_append, List.take_append_drop]
  rw [h, List.length_append]
  omega

set_option maxRecDepth 100000 in
set_option maxHeartbeats 8000000 in
theorem ordlaw_any (w : World) (A : Option Addr) (n c : Nat) (l : List Fn18) (hl : Sl fnR w All (.slice A n c) l) :
    Calls Try.prog 3 #[.slice A n c] w (OneBool w true) := by
  have HL := hid hl; clear hl
  obtain ⟨B, hB⟩ : ∃ B : Nat → Nat → Bool, ∀ a b, B a b = true ↔ Reach l a b := ⟨fun a b => @decide (Reach l a b) (Classical.propDecidable _), fun a b => @decide_eq_true_iff _ (Classical.propDecidable _)⟩
  have HB := hid hB; clear hB
  go_enter Try.func3, Try.ntmps3
  go_wp2_with fail
  refine (few_any w A n c l HL.out).mono ?_
  rintro e w' ⟨⟨b, rfl, hb⟩, rfl⟩
  cases b
  case' false =>
    clear hb
    go_wp2_with fail
    refine (example_any _).mono ?_
    rintro e w1 ⟨rfl, hx⟩
    have HX := hid hx; clear hx
    go_wp2
    go_ret
    exact ⟨rfl, HX.out⟩
  have hn10 : n ≤ 10 := (hb rfl).1
  have HB12 := hid (hb rfl).2
  clear hb
  have HC := hid (show ∀ f ∈ l, f.calls.length ≤ 1000 from fun f hf => by have := (HB12.out f hf).2; omega)
  go_wp2_with fail
  refine (from_any w A n c l HL.out (by omega)).mono ?_
  rintro e w1 ⟨hx1, fA, fc, rfl, hs1⟩
  have HX1 := hid hx1
  have HS1 := hid hs1
  have hln : l.length = n := by rw [HL.out.len]
  rw [hln] at HS1 ⊢
  have HP := hid (pre_reach l B HB.out)
  have hel : (entriesOf l).length ≤ 10 := by
    have := asc_len (l.map (·.entry))
    rw [List.length_map] at this
    rw [entriesOf]
    omega
  clear hx1 hs1 hln
  have hord := orderOf_ord HP.out
  have hfl := orderOf_len HP.out
  obtain ⟨E, hE⟩ : ∃ E, entriesOf l = E := ⟨_, rfl⟩
  obtain ⟨O, hO⟩ : ∃ O, orderOf (entriesOf l) B = O := ⟨_, rfl⟩
  rw [hO] at hord hfl
  rw [hE] at hord hfl hel HP
  have HE := hid hE; clear hE
  have HO := hid hO; clear hO
  have HORD := hid hord; clear hord
  have HFL := hid hfl; clear hfl
  go_wp2_with fail
  refine (order_any w1 fA n fc l HS1.out (by omega) HC.out B HB.out).mono ?_
  rintro e w2 ⟨hx2, oA, oc, rfl, hs2⟩
  rw [HO.out] at hs2 ⊢
  have HX2 := hid hx2
  have HS2 := hid hs2
  have hcap := hs2.cap
  have hcap1 := hcap.1
  have hcap2 := hcap.2
  clear hx2 hs2 hcap
  obtain ⟨NO, hNO⟩ : ∃ NO, O.length = NO := ⟨_, rfl⟩
  rw [hNO] at HS2 hcap1 ⊢
  have HNO := hid hNO; clear hNO
  go_wp2_with fail
  refine (rentries_any w2 A n c l ((HL.out.ext HX1.out).ext HX2.out) (by omega)).mono ?_
  rintro e w3 ⟨hx3, eA, ec, rfl, hs3⟩
  rw [HE.out] at hs3 ⊢
  have HX3 := hid hx3
  have HS3 := hid hs3
  have hcap := hs3.cap
  have hcap3 := hcap.1
  have hcap4 := hcap.2
  clear hx3 hs3 hcap
  obtain ⟨NE, hNE⟩ : ∃ NE, E.length = NE := ⟨_, rfl⟩
  rw [hNE] at HS3 hcap3 hel ⊢
  have HNE := hid hNE; clear hNE
  have HO3 := hid (HS2.out.ext HX3.out)
  go_wp2
  go_loop [6, 7] (fun s6 s7 => ∃ k q : Nat, k ≤ NO ∧ s7 = .int .i64 k ∧ s6 = .int .i64 q ∧ Hid (q = (O.take k).flatten.length)) (fun _ s7 => NO - (intOf s7).toNat)
  case atStart => exact ⟨0, 0, by omega, rfl, rfl, hid (by simp)⟩
  case round =>
    obtain ⟨k, q, hk, rfl, rfl, hq⟩ := hrel
    have hqb : q ≤ NE := by
      have := flat_take_le O k
      have := HFL.out
      have := HNE.out
      have := hq.out
      omega
    by_cases h1 : k < NO
    · obtain ⟨C, hC⟩ : ∃ C, O[k]? = some C := ⟨_, List.getElem?_eq_getElem (by have := HNO.out; omega)⟩
      obtain ⟨b, off, cA, cc, rfl, q1, hs1⟩ := Sl_ss_at HO3.out hC
      have hft := flat_take hC
      have hfb := flat_take_le O (k + 1)
      have hCl : q + C.length ≤ NE := by
        have := HFL.out
        have := HNE.out
        have := hq.out
        omega
      have HFT := hid hft
      have hccap := hs1.cap
      have hcc1 := hccap.1
      have hcc2 := hccap.2
      clear hs1 hft hfb hC hccap
      obtain ⟨NC, hNC⟩ : ∃ NC, C.length = NC := ⟨_, rfl⟩
      rw [hNC] at q1 hCl hcc1
      have HNC := hid hNC; clear hNC
      go_wp2
      first
        | go_round
        | refine ⟨?rel, ?measure⟩
      case rel => exact ⟨k + 1, q + NC, by omega, by go_num, by go_num, hid (by have := HFT.out; have := HNC.out; have := hq.out; omega)⟩
      case measure => simp [intOf]; omega
    · obtain rfl : k = NO := by omega
      have hqN : q = NE := by
        have h3 := hq.out
        rw [List.take_of_length_le (by have := HNO.out; omega), HFL.out, HNE.out] at h3
        exact h3
      subst hqN
      have hqq : ((q : Int) != (q : Int)) = false := by simp
      go_wp2
      go_loopw [8] (fun s8 wr => ∃ i : Nat, i ≤ q ∧ s8 = .int .i64 i ∧ Hid (Ext w3 wr)) (fun s8 _ => q - (intOf s8).toNat)
      case atStart => exact ⟨0, by omega, rfl, hid (Ext.refl _)⟩
      case round =>
        obtain ⟨i, hi, rfl, hx4⟩ := hrel
        by_cases h2 : i < q
        · obtain ⟨a, ha⟩ : ∃ a, E[i]? = some a := ⟨_, List.getElem?_eq_getElem (by have := HNE.out; omega)⟩
          have haE := List.mem_of_getElem? ha
          obtain ⟨b, off, rfl, ca, ha32⟩ := HS3.out.num_at ha
          have CA := hid ca
          have ca := hx4.out.cell ca
          have HAE := hid haE
          obtain ⟨ia, hia⟩ := inOf_is (HORD.out.2 a haE)
          have hial : ia ≤ k := by
            have h3 := inInt_lt O a
            rw [inInt_some hia] at h3
            have := HNO.out
            omega
          have HIA := hid hia
          have HINA := hid (inInt_some hia)
          clear ha haE hia
          go_wp2_with fail
          refine (in_any wr oA k oc O (HO3.out.ext hx4.out) a).mono ?_
          rintro e w4 ⟨rfl, rfl⟩
          rw [HINA.out]
          have HS14 := hid (((HS1.out.ext HX2.out).ext HX3.out).ext hx4.out)
          go_wp2_with fail
          refine (callees_any wr wr (Ext.refl _) fA n fc l HS14.out (by omega) HC.out a).mono ?_
          rintro e w5 ⟨hx5, cA, cc, rfl, hs5⟩
          have HX5 := hid (hx4.out.trans hx5)
          obtain ⟨C, hC⟩ : ∃ C, calleesOf l a = C := ⟨_, rfl⟩
          rw [hC] at hs5 ⊢
          have HCE := hid hC; clear hC
          have hcapc := hs5.cap
          have hcapc1 := hcapc.1
          have hcapc2 := hcapc.2
          have HS5 := hid hs5
          clear hx5 hs5 hcapc ca
          have ca := HX5.out.cell CA.out
          have hia0 : ¬ ((ia : Int) < 0) := by omega
          go_wp2_with fail
          refine (rcallees_any w5 A n c l ((((HL.out.ext HX1.out).ext HX2.out).ext HX3.out).ext HX5.out) HC.out a).mono ?_
          rintro e w6 ⟨hx6, dA, dc, rfl, hs6⟩
          rw [HCE.out] at hs6 ⊢
          have HX6 := hid (HX5.out.trans hx6)
          have HC6 := hid (HS5.out.ext hx6)
          have HS6 := hid hs6
          clear hx6 hs6
          go_wp2_with fail
          refine (words_any w6 w6 (Ext.refl _) cA dA C.length C.length cc dc C C HC6.out HS6.out).mono ?_
          rintro e w7 ⟨rfl, hx7⟩
          have hd : decide (C = C) = true := by simp
          rw [hd]
          have HX7 := hid (HX6.out.trans hx7)
          have HC7 := hid (HC6.out.ext hx7)
          clear hx7 hd ca
          obtain ⟨NC, hNC⟩ : ∃ NC, C.length = NC := ⟨_, rfl⟩
          rw [hNC] at HC7 hcapc1 ⊢
          have HNC := hid hNC; clear hNC
          go_wp2
          go_loop [11] (fun s11 => ∃ j : Nat, j ≤ NC ∧ s11 = .int .i64 j) (fun s11 => NC - (intOf s11).toNat)
          case atStart => exact ⟨0, by omega, rfl⟩
          case round =>
            obtain ⟨j, hj, rfl⟩ := hrel
            by_cases h3 : j < NC
            · obtain ⟨x, hx⟩ : ∃ x, C[j]? = some x := ⟨_, List.getElem?_eq_getElem (by have := HNC.out; omega)⟩
              obtain ⟨b2, off2, rfl, cx, hx32⟩ := HC7.out.num_at hx
              have hxc : x ∈ calleesOf l a := by rw [HCE.out]; exact List.mem_of_getElem? hx
              have hxE : x ∈ E := by rw [← HE.out]; exact callees_entry hxc
              obtain ⟨ix, hix, hle⟩ := inOf_down HORD.out.1 HIA.out hxE ((HB.out a x).2 (.step (.refl a) hxc))
              have HIX := hid (inInt_some hix)
              clear hx hxc hxE hix
              go_wp2_with fail
              refine (in_any w7 oA k oc O (HO3.out.ext HX7.out) x).mono ?_
              rintro e w8 ⟨rfl, rfl⟩
              rw [HIX.out]
              have hgt : ¬ ((ix : Int) > (ia : Int)) := by omega
              go_wp2
              first
                | go_round
                | refine ⟨?rel, ?measure⟩
              case rel => exact ⟨j + 1, by omega, by go_num⟩
              case measure => simp [intOf]; omega
            · obtain rfl : j = NC := by omega
              have ca := HX7.out.cell CA.out
              go_wp2_with fail
              refine (leads_any w7 A n c l ((((HL.out.ext HX1.out).ext HX2.out).ext HX3.out).ext HX7.out) (by omega) HC.out a ha32).mono ?_
              rintro e w8 ⟨hx8, tA, tc, L, rfl, hs8, hL8, -⟩
              have HX8 := hid (HX7.out.trans hx8)
              have HS8 := hid hs8
              have HL8 := hid (fun x => show L.contains x = B a x by rw [Bool.eq_iff_iff, List.contains_iff_mem, hL8, HB.out a x])
              clear hx8 hs8 hL8 ca
              go_wp2
              go_loopw [13] (fun s13 wr => ∃ p : Nat, p ≤ q ∧ s13 = .int .i64 p ∧ Hid (Ext w8 wr)) (fun s13 _ => q - (intOf s13).toNat)
              case atStart => exact ⟨0, by omega, rfl, hid (Ext.refl _)⟩
              case round =>
                obtain ⟨p, hp, rfl, hx9⟩ := hrel
                by_cases h4 : p < q
                · obtain ⟨y, hy⟩ : ∃ y, E[p]? = some y := ⟨_, List.getElem?_eq_getElem (by have := HNE.out; omega)⟩
                  have hyE := List.mem_of_getElem? hy
                  obtain ⟨b2, off2, hA2, cy, hy32⟩ := HS3.out.num_at hy
                  cases hA2
                  have HX9 := hid (HX8.out.trans hx9.out)
                  have CY := hid cy
                  have cy := HX9.out.cell cy
                  have ca := HX9.out.cell CA.out
                  obtain ⟨iy, hiy⟩ := inOf_is (HORD.out.2 y hyE)
                  have hsame := inOf_same HP.out HORD.out.1 HIA.out hyE
                  rw [hiy] at hsame
                  have HIY := hid (inInt_some hiy)
                  have hiyl : iy ≤ k := by
                    have h3 := inInt_lt O y
                    rw [inInt_some hiy] at h3
                    have := HNO.out
                    omega
                  have HSAME := hid hsame
                  have HLY := hid (HL8.out y)
                  clear hy hyE hiy hsame
                  have hp0 : (0 : Int) ≤ (p : Int) := by omega
                  have hp1 : (p : Int) < (q : Int) := by omega
                  have hi0 : (0 : Int) ≤ (i : Int) := by omega
                  have hi1 : (i : Int) < (q : Int) := by omega
                  obtain ⟨x1, hx1⟩ : ∃ x1, B a y = x1 := ⟨_, rfl⟩
                  obtain ⟨x2, hx2⟩ : ∃ x2, B y a = x2 := ⟨_, rfl⟩
                  rw [hx1] at HLY
                  rw [hx1, hx2] at HSAME
                  have HX2B := hid hx2
                  clear hx1 hx2
                  cases x1 with
                  | false =>
                    have hne : ((iy : Int) == (ia : Int)) = false := by
                      cases h5 : ((iy : Int) == (ia : Int)) with
                      | false => rfl
                      | true =>
                        simp at h5
                        have h6 : iy = ia := by omega
                        have := HSAME.out.1 (by rw [h6])
                        cases this
                    have HNEQ := hid hne; clear hne
                    go_wp2_with fail
                    refine wp_region_held_drew (S := (fun w' => w'.cell? ⟨b, off + p, none⟩ = some (.int .u32 y) ∧ w'.cell? ⟨b, off + i, none⟩ = some (.int .u32 a))) (by kernel_rfl) ⟨cy, ca⟩ (fun hSR0 => ?_)
                    refine wpAnyH_takeL (i := 0) (v := ?Rv0) rfl (by kernel_rfl) (by kernel_rfl) (by kernel_rfl) (fun _ _ _ h => h) (Or.inl ⟨by rfl, ?Ry0⟩) (by assumption) ?Rr0
                    case Ry0 => first | (intro w hSw; (try dsimp only at hSw); go_simp; done) | (intro w hSw; (try dsimp only at hSw); go_simp; with_reducible rfl)
                    case' Rr0 => try simp only [Act.put, List.setIfInBounds_toArray, List.set_cons_zero, List.set_cons_succ]
                    refine wpAnyH_takeL (i := 1) (v := ?Rv1) rfl (by kernel_rfl) (by kernel_rfl) (by kernel_rfl) (fun _ _ _ h => h) (Or.inl ⟨by rfl, ?Ry1⟩) (by assumption) ?Rr1
                    case Ry1 => first | (intro w hSw; (try dsimp only at hSw); go_simp; done) | (intro w hSw; (try dsimp only at hSw); go_simp; with_reducible rfl)
                    case' Rr1 => try simp only [Act.put, List.setIfInBounds_toArray, List.set_cons_zero, List.set_cons_succ]
                    refine wpAnyH_takeL (i := 2) (v := ?Rv2) rfl (by kernel_rfl) (by kernel_rfl) (by kernel_rfl) (fun _ _ _ h => h) (Or.inl ⟨by rfl, ?Ry2⟩) (by assumption) ?Rr2
                    case Ry2 => first | (intro w hSw; (try dsimp only at hSw); go_simp; done) | (intro w hSw; (try dsimp only at hSw); go_simp; with_reducible rfl)
                    case' Rr2 => try simp only [Act.put, List.setIfInBounds_toArray, List.set_cons_zero, List.set_cons_succ]
                    refine wpAnyH_takeL (i := 3) (v := ?Rv3) rfl (by kernel_rfl) (by kernel_rfl) (by kernel_rfl) (fun _ _ _ h => h) (Or.inl ⟨by rfl, ?Ry3⟩) (by assumption) ?Rr3
                    case Ry3 => first | (intro w hSw; (try dsimp only at hSw); go_simp; done) | (intro w hSw; (try dsimp only at hSw); go_simp; with_reducible rfl)
                    case' Rr3 => try simp only [Act.put, List.setIfInBounds_toArray, List.set_cons_zero, List.set_cons_succ]
                    refine wpAnyH_takeL (i := 4) (v := ?Rv4) rfl (by kernel_rfl) (by kernel_rfl) (by kernel_rfl) (fun _ _ _ h => h) (Or.inl ⟨by rfl, ?Ry4⟩) (by assumption) ?Rr4
                    case Ry4 => first | (intro w hSw; (try dsimp only at hSw); go_simp; done) | (intro w hSw; (try dsimp only at hSw); go_simp; with_reducible rfl)
                    case' Rr4 => try simp only [Act.put, List.setIfInBounds_toArray, List.set_cons_zero, List.set_cons_succ]
                    refine wpAnyH_ready (rs := [5]) (by kernel_rfl) (by simp) ?_
                    refine AllReadyH.consL rfl (fun K hK => ?_) AllReadyH.nil
                    go_simp
                    go_at_call 17
                    refine (has_any _ All tA L.length tc L ((HS8.out.ext hx9.out).ext ((Ext.refl _).drew)) y).mono ?_
                    rintro e w6 ⟨rfl, rfl⟩
                    rw [HLY.out]
                    refine hK.out _ _ (by assumption) (fun hSR1 => ?_)
                    clear hK K
                    try simp only [Act.put, List.setIfInBounds_toArray, List.set_cons_zero, List.set_cons_succ]
                    refine wpAnyH_takeL (i := 6) (v := ?Rv6) rfl (by kernel_rfl) (by kernel_rfl) (by kernel_rfl) (fun _ _ _ h => h) (Or.inl ⟨by rfl, ?Ry6⟩) (by assumption) ?Rr6
                    case Ry6 => first | (intro w hSw; (try dsimp only at hSw); go_simp; done) | (intro w hSw; (try dsimp only at hSw); go_simp; with_reducible rfl)
                    case' Rr6 => try simp only [Act.put, List.setIfInBounds_toArray, List.set_cons_zero, List.set_cons_succ]
                    refine wpAnyH_takeL (i := 7) (v := undef) rfl (by kernel_rfl) (by kernel_rfl) (by kernel_rfl) (fun _ _ _ h => h) (Or.inr ⟨by rfl, rfl⟩) (by assumption) ?Rr7
                    case' Rr7 => try simp only [Act.put, List.setIfInBounds_toArray, List.set_cons_zero, List.set_cons_succ]
                    refine wpAnyH_takeL (i := 8) (v := undef) rfl (by kernel_rfl) (by kernel_rfl) (by kernel_rfl) (fun _ _ _ h => h) (Or.inr ⟨by rfl, rfl⟩) (by assumption) ?Rr8
                    case' Rr8 => try simp only [Act.put, List.setIfInBounds_toArray, List.set_cons_zero, List.set_cons_succ]
                    refine wpAnyH_takeL (i := 9) (v := undef) rfl (by kernel_rfl) (by kernel_rfl) (by kernel_rfl) (fun _ _ _ h => h) (Or.inr ⟨by rfl, rfl⟩) (by assumption) ?Rr9
                    case' Rr9 => try simp only [Act.put, List.setIfInBounds_toArray, List.set_cons_zero, List.set_cons_succ]
                    refine wpAnyH_takeL (i := 10) (v := undef) rfl (by kernel_rfl) (by kernel_rfl) (by kernel_rfl) (fun _ _ _ h => h) (Or.inr ⟨by rfl, rfl⟩) (by assumption) ?Rr10
                    case' Rr10 => try simp only [Act.put, List.setIfInBounds_toArray, List.set_cons_zero, List.set_cons_succ]
                    refine wpAnyH_takeL (i := 11) (v := undef) rfl (by kernel_rfl) (by kernel_rfl) (by kernel_rfl) (fun _ _ _ h => h) (Or.inr ⟨by rfl, rfl⟩) (by assumption) ?Rr11
                    case' Rr11 => try simp only [Act.put, List.setIfInBounds_toArray, List.set_cons_zero, List.set_cons_succ]
                    refine wpAnyH_takeL (i := 13) (v := undef) rfl (by kernel_rfl) (by kernel_rfl) (by kernel_rfl) (fun _ _ _ h => h) (Or.inr ⟨by rfl, rfl⟩) (by assumption) ?Rr13
                    case' Rr13 => try simp only [Act.put, List.setIfInBounds_toArray, List.set_cons_zero, List.set_cons_succ]
                    refine wpAnyH_takeL (i := 14) (v := undef) rfl (by kernel_rfl) (by kernel_rfl) (by kernel_rfl) (fun _ _ _ h => h) (Or.inr ⟨by rfl, rfl⟩) (by assumption) ?Rr14
                    case' Rr14 => try simp only [Act.put, List.setIfInBounds_toArray, List.set_cons_zero, List.set_cons_succ]
                    refine wpAnyH_takeL (i := 15) (v := undef) rfl (by kernel_rfl) (by kernel_rfl) (by kernel_rfl) (fun _ _ _ h => h) (Or.inr ⟨by rfl, rfl⟩) (by assumption) ?Rr15
                    case' Rr15 => try simp only [Act.put, List.setIfInBounds_toArray, List.set_cons_zero, List.set_cons_succ]
                    refine wpAnyH_takeL (i := 16) (v := undef) rfl (by kernel_rfl) (by kernel_rfl) (by kernel_rfl) (fun _ _ _ h => h) (Or.inr ⟨by rfl, rfl⟩) (by assumption) ?Rr16
                    case' Rr16 => try simp only [Act.put, List.setIfInBounds_toArray, List.set_cons_zero, List.set_cons_succ]
                    refine wpAnyH_ready (rs := [12]) (by kernel_rfl) (by simp) ?_
                    refine AllReadyH.consL rfl (fun K hK => ?_) AllReadyH.nil
                    refine cast (if_neg (fun h => Bool.noConfusion (show false = true from h))).symm ?_
                    refine hK.out _ _ (by assumption) (fun hSR2 => ?_)
                    clear hK K
                    try simp only [Act.put, List.setIfInBounds_toArray, List.set_cons_zero, List.set_cons_succ]
                    refine wpAnyH_ready (rs := [17]) (by kernel_rfl) (by simp) ?_
                    refine AllReadyH.consL rfl (fun K hK => ?_) AllReadyH.nil
                    refine cast (if_neg (fun h => Bool.noConfusion (show false = true from h))).symm ?_
                    refine hK.out _ _ (by assumption) (fun hSR3 => ?_)
                    clear hK K
                    try simp only [Act.put, List.setIfInBounds_toArray, List.set_cons_zero, List.set_cons_succ]
                    refine wpAnyH_takeL (i := 18) (v := ?Rv18) rfl (by kernel_rfl) (by kernel_rfl) (by kernel_rfl) (fun _ _ _ h => h) (Or.inl ⟨by rfl, ?Ry18⟩) (by assumption) ?Rr18
                    case Ry18 => first | (intro w hSw; (try dsimp only at hSw); go_simp; done) | (intro w hSw; (try dsimp only at hSw); go_simp; with_reducible rfl)
                    case' Rr18 => try simp only [Act.put, List.setIfInBounds_toArray, List.set_cons_zero, List.set_cons_succ]
                    refine wpAnyH_takeL (i := 19) (v := ?Rv19) rfl (by kernel_rfl) (by kernel_rfl) (by kernel_rfl) (fun _ _ _ h => h) (Or.inl ⟨by rfl, ?Ry19⟩) (by assumption) ?Rr19
                    case Ry19 => first | (intro w hSw; (try dsimp only at hSw); go_simp; done) | (intro w hSw; (try dsimp only at hSw); go_simp; with_reducible rfl)
                    case' Rr19 => try simp only [Act.put, List.setIfInBounds_toArray, List.set_cons_zero, List.set_cons_succ]
                    refine wpAnyH_done (by kernel_rfl) ?_ _
                    go_wp2_with fail
                    refine (in_any _ oA k oc O ((HO3.out.ext HX9.out).ext ((Ext.refl _).drew)) y).mono ?_
                    rintro e w10 ⟨rfl, rfl⟩
                    rw [HIY.out]
                    have hne := HNEQ.out
                    go_wp2
                    first
                      | go_roundw
                      | refine ⟨?rel, ?measure⟩
                    case rel => exact ⟨p + 1, by omega, by go_num, hid hx9.out.drew⟩
                    case measure => simp [intOf]; omega
                  | true =>
                    have hbth : ((iy : Int) == (ia : Int)) = x2 := by
                      rw [Bool.eq_iff_iff]
                      simp
                      constructor
                      · intro h5
                        have h6 : iy = ia := by omega
                        have := HSAME.out.1 (by rw [h6])
                        simpa using this
                      · intro h5
                        have := HSAME.out.2 (by simp [h5])
                        injection this with this
                        omega
                    have HBTH := hid hbth; clear hbth
                    go_wp2_with fail
                    refine wp_region_held_drew (S := (fun w' => w'.cell? ⟨b, off + p, none⟩ = some (.int .u32 y) ∧ w'.cell? ⟨b, off + i, none⟩ = some (.int .u32 a))) (by kernel_rfl) ⟨cy, ca⟩ (fun hSU0 => ?_)
                    refine wpAnyH_takeL (i := 0) (v := ?Uv0) rfl (by kernel_rfl) (by kernel_rfl) (by kernel_rfl) (fun _ _ _ h => h) (Or.inl ⟨by rfl, ?Uy0⟩) (by assumption) ?Ur0
                    case Uy0 => first | (intro w hSw; (try dsimp only at hSw); go_simp; done) | (intro w hSw; (try dsimp only at hSw); go_simp; with_reducible rfl)
                    case' Ur0 => try simp only [Act.put, List.setIfInBounds_toArray, List.set_cons_zero, List.set_cons_succ]
                    refine wpAnyH_takeL (i := 1) (v := ?Uv1) rfl (by kernel_rfl) (by kernel_rfl) (by kernel_rfl) (fun _ _ _ h => h) (Or.inl ⟨by rfl, ?Uy1⟩) (by assumption) ?Ur1
                    case Uy1 => first | (intro w hSw; (try dsimp only at hSw); go_simp; done) | (intro w hSw; (try dsimp only at hSw); go_simp; with_reducible rfl)
                    case' Ur1 => try simp only [Act.put, List.setIfInBounds_toArray, List.set_cons_zero, List.set_cons_succ]
                    refine wpAnyH_takeL (i := 2) (v := ?Uv2) rfl (by kernel_rfl) (by kernel_rfl) (by kernel_rfl) (fun _ _ _ h => h) (Or.inl ⟨by rfl, ?Uy2⟩) (by assumption) ?Ur2
                    case Uy2 => first | (intro w hSw; (try dsimp only at hSw); go_simp; done) | (intro w hSw; (try dsimp only at hSw); go_simp; with_reducible rfl)
                    case' Ur2 => try simp only [Act.put, List.setIfInBounds_toArray, List.set_cons_zero, List.set_cons_succ]
                    refine wpAnyH_takeL (i := 3) (v := ?Uv3) rfl (by kernel_rfl) (by kernel_rfl) (by kernel_rfl) (fun _ _ _ h => h) (Or.inl ⟨by rfl, ?Uy3⟩) (by assumption) ?Ur3
                    case Uy3 => first | (intro w hSw; (try dsimp only at hSw); go_simp; done) | (intro w hSw; (try dsimp only at hSw); go_simp; with_reducible rfl)
                    case' Ur3 => try simp only [Act.put, List.setIfInBounds_toArray, List.set_cons_zero, List.set_cons_succ]
                    refine wpAnyH_takeL (i := 4) (v := ?Uv4) rfl (by kernel_rfl) (by kernel_rfl) (by kernel_rfl) (fun _ _ _ h => h) (Or.inl ⟨by rfl, ?Uy4⟩) (by assumption) ?Ur4
                    case Uy4 => first | (intro w hSw; (try dsimp only at hSw); go_simp; done) | (intro w hSw; (try dsimp only at hSw); go_simp; with_reducible rfl)
                    case' Ur4 => try simp only [Act.put, List.setIfInBounds_toArray, List.set_cons_zero, List.set_cons_succ]
                    refine wpAnyH_ready (rs := [5]) (by kernel_rfl) (by simp) ?_
                    refine AllReadyH.consL rfl (fun K hK => ?_) AllReadyH.nil
                    go_simp
                    go_at_call 17
                    refine (has_any _ All tA L.length tc L ((HS8.out.ext hx9.out).ext ((Ext.refl _).drew)) y).mono ?_
                    rintro e w6 ⟨rfl, rfl⟩
                    rw [HLY.out]
                    refine hK.out _ _ (by assumption) (fun hSU1 => ?_)
                    clear hK K
                    try simp only [Act.put, List.setIfInBounds_toArray, List.set_cons_zero, List.set_cons_succ]
                    refine wpAnyH_takeL (i := 6) (v := ?Uv6) rfl (by kernel_rfl) (by kernel_rfl) (by kernel_rfl) (fun _ _ _ h => h) (Or.inl ⟨by rfl, ?Uy6⟩) (by assumption) ?Ur6
                    case Uy6 => first | (intro w hSw; (try dsimp only at hSw); go_simp; done) | (intro w hSw; (try dsimp only at hSw); go_simp; with_reducible rfl)
                    case' Ur6 => try simp only [Act.put, List.setIfInBounds_toArray, List.set_cons_zero, List.set_cons_succ]
                    refine wpAnyH_takeL (i := 7) (v := ?Uv7) rfl (by kernel_rfl) (by kernel_rfl) (by kernel_rfl) (fun _ _ _ h => h) (Or.inl ⟨by rfl, ?Uy7⟩) (by assumption) ?Ur7
                    case Uy7 => first | (intro w hSw; (try dsimp only at hSw); go_simp; done) | (intro w hSw; (try dsimp only at hSw); go_simp; with_reducible rfl)
                    case' Ur7 => try simp only [Act.put, List.setIfInBounds_toArray, List.set_cons_zero, List.set_cons_succ]
                    refine wpAnyH_takeL (i := 8) (v := ?Uv8) rfl (by kernel_rfl) (by kernel_rfl) (by kernel_rfl) (fun _ _ _ h => h) (Or.inl ⟨by rfl, ?Uy8⟩) (by assumption) ?Ur8
                    case Uy8 => first | (intro w hSw; (try dsimp only at hSw); go_simp; done) | (intro w hSw; (try dsimp only at hSw); go_simp; with_reducible rfl)
                    case' Ur8 => try simp only [Act.put, List.setIfInBounds_toArray, List.set_cons_zero, List.set_cons_succ]
                    refine wpAnyH_takeL (i := 9) (v := ?Uv9) rfl (by kernel_rfl) (by kernel_rfl) (by kernel_rfl) (fun _ _ _ h => h) (Or.inl ⟨by rfl, ?Uy9⟩) (by assumption) ?Ur9
                    case Uy9 => first | (intro w hSw; (try dsimp only at hSw); go_simp; done) | (intro w hSw; (try dsimp only at hSw); go_simp; with_reducible rfl)
                    case' Ur9 => try simp only [Act.put, List.setIfInBounds_toArray, List.set_cons_zero, List.set_cons_succ]
                    refine wpAnyH_takeL (i := 10) (v := ?Uv10) rfl (by kernel_rfl) (by kernel_rfl) (by kernel_rfl) (fun _ _ _ h => h) (Or.inl ⟨by rfl, ?Uy10⟩) (by assumption) ?Ur10
                    case Uy10 => first | (intro w hSw; (try dsimp only at hSw); go_simp; done) | (intro w hSw; (try dsimp only at hSw); go_simp; with_reducible rfl)
                    case' Ur10 => try simp only [Act.put, List.setIfInBounds_toArray, List.set_cons_zero, List.set_cons_succ]
                    refine wpAnyH_takeL (i := 11) (v := ?Uv11) rfl (by kernel_rfl) (by kernel_rfl) (by kernel_rfl) (fun _ _ _ h => h) (Or.inl ⟨by rfl, ?Uy11⟩) (by assumption) ?Ur11
                    case Uy11 => first | (intro w hSw; (try dsimp only at hSw); go_simp; done) | (intro w hSw; (try dsimp only at hSw); go_simp; with_reducible rfl)
                    case' Ur11 => try simp only [Act.put, List.setIfInBounds_toArray, List.set_cons_zero, List.set_cons_succ]
                    refine wpAnyH_takeL (i := 13) (v := ?Uv13) rfl (by kernel_rfl) (by kernel_rfl) (by kernel_rfl) (fun _ _ _ h => h) (Or.inl ⟨by rfl, ?Uy13⟩) (by assumption) ?Ur13
                    case Uy13 => first | (intro w hSw; (try dsimp only at hSw); go_simp; done) | (intro w hSw; (try dsimp only at hSw); go_simp; with_reducible rfl)
                    case' Ur13 => try simp only [Act.put, List.setIfInBounds_toArray, List.set_cons_zero, List.set_cons_succ]
                    refine wpAnyH_takeL (i := 14) (v := ?Uv14) rfl (by kernel_rfl) (by kernel_rfl) (by kernel_rfl) (fun _ _ _ h => h) (Or.inl ⟨by rfl, ?Uy14⟩) (by assumption) ?Ur14
                    case Uy14 => first | (intro w hSw; (try dsimp only at hSw); go_simp; done) | (intro w hSw; (try dsimp only at hSw); go_simp; with_reducible rfl)
                    case' Ur14 => try simp only [Act.put, List.setIfInBounds_toArray, List.set_cons_zero, List.set_cons_succ]
                    refine wpAnyH_takeL (i := 15) (v := ?Uv15) rfl (by kernel_rfl) (by kernel_rfl) (by kernel_rfl) (fun _ _ _ h => h) (Or.inl ⟨by rfl, ?Uy15⟩) (by assumption) ?Ur15
                    case Uy15 => first | (intro w hSw; (try dsimp only at hSw); go_simp; done) | (intro w hSw; (try dsimp only at hSw); go_simp; with_reducible rfl)
                    case' Ur15 => try simp only [Act.put, List.setIfInBounds_toArray, List.set_cons_zero, List.set_cons_succ]
                    refine wpAnyH_takeL (i := 16) (v := ?Uv16) rfl (by kernel_rfl) (by kernel_rfl) (by kernel_rfl) (fun _ _ _ h => h) (Or.inl ⟨by rfl, ?Uy16⟩) (by assumption) ?Ur16
                    case Uy16 => first | (intro w hSw; (try dsimp only at hSw); go_simp; done) | (intro w hSw; (try dsimp only at hSw); go_simp; with_reducible rfl)
                    case' Ur16 => try simp only [Act.put, List.setIfInBounds_toArray, List.set_cons_zero, List.set_cons_succ]
                    refine wpAnyH_ready (rs := [12]) (by kernel_rfl) (by simp) ?_
                    refine AllReadyH.consL rfl (fun K hK => ?_) AllReadyH.nil
                    go_simp
                    go_at_call 16
                    refine (leads_any _ A n c l (((((HL.out.ext HX1.out).ext HX2.out).ext HX3.out).ext HX9.out).ext ((Ext.refl _).drew)) (by omega) HC.out y hy32).mono ?_
                    rintro e w11 ⟨hx11, sA, sc, M, rfl, hs11, hM, -⟩
                    have HX11 := hid hx11.drew_left
                    have HS11 := hid hs11
                    have HM := hid (show M.contains a = x2 by rw [← HX2B.out, Bool.eq_iff_iff, List.contains_iff_mem, hM, HB.out y a])
                    clear hx11 hs11 hM
                    refine hK.out _ _ ⟨HX11.out.cell cy, HX11.out.cell ca⟩ (fun hSU2 => ?_)
                    clear hK K
                    try simp only [Act.put, List.setIfInBounds_toArray, List.set_cons_zero, List.set_cons_succ]
                    refine wpAnyH_ready (rs := [17]) (by kernel_rfl) (by simp) ?_
                    refine AllReadyH.consL rfl (fun K hK => ?_) AllReadyH.nil
                    go_simp
                    go_at_call 17
                    refine (has_any _ All sA M.length sc M HS11.out a).mono ?_
                    rintro e w12 ⟨rfl, rfl⟩
                    rw [HM.out]
                    refine hK.out _ _ ⟨HX11.out.cell cy, HX11.out.cell ca⟩ (fun hSU3 => ?_)
                    clear hK K
                    try simp only [Act.put, List.setIfInBounds_toArray, List.set_cons_zero, List.set_cons_succ]
                    refine wpAnyH_takeL (i := 18) (v := ?Uv18) rfl (by kernel_rfl) (by kernel_rfl) (by kernel_rfl) (fun _ _ _ h => h) (Or.inl ⟨by rfl, ?Uy18⟩) (by assumption) ?Ur18
                    case Uy18 => first | (intro w hSw; (try dsimp only at hSw); go_simp; done) | (intro w hSw; (try dsimp only at hSw); go_simp; with_reducible rfl)
                    case' Ur18 => try simp only [Act.put, List.setIfInBounds_toArray, List.set_cons_zero, List.set_cons_succ]
                    refine wpAnyH_takeL (i := 19) (v := ?Uv19) rfl (by kernel_rfl) (by kernel_rfl) (by kernel_rfl) (fun _ _ _ h => h) (Or.inl ⟨by rfl, ?Uy19⟩) (by assumption) ?Ur19
                    case Uy19 => first | (intro w hSw; (try dsimp only at hSw); go_simp; done) | (intro w hSw; (try dsimp only at hSw); go_simp; with_reducible rfl)
                    case' Ur19 => try simp only [Act.put, List.setIfInBounds_toArray, List.set_cons_zero, List.set_cons_succ]
                    refine wpAnyH_done (by kernel_rfl) ?_ _
                    have cy := HX11.out.cell cy
                    go_wp2_with fail
                    refine (in_any _ oA k oc O ((HO3.out.ext HX9.out).ext HX11.out) y).mono ?_
                    rintro e w10 ⟨rfl, rfl⟩
                    rw [HIY.out]
                    have hbth := HBTH.out
                    cases x2
                    all_goals
                      go_wp2
                      first
                        | go_roundw
                        | refine ⟨?rel, ?measure⟩
                      case rel => exact ⟨p + 1, by omega, by go_num, hid (hx9.out.trans HX11.out)⟩
                      case measure => simp [intOf]; omega
                · obtain rfl : p = q := by omega
                  go_wp2
                  first
                    | go_roundw
                    | refine ⟨?rel, ?measure⟩
                  case rel => exact ⟨i + 1, by omega, by go_num, hid (HX8.out.trans hx9.out)⟩
                  case measure => simp [intOf]; omega
        · obtain rfl : i = q := by omega
          go_wp2_with fail
          refine (example_any _).mono ?_
          rintro e w9 ⟨rfl, hx9⟩
          have HX9 := hid ((((HX1.out.trans HX2.out).trans HX3.out).trans hx4.out).trans hx9)
          clear hx9
          go_wp2
          go_ret
          exact ⟨rfl, HX9.out⟩
end Go.Proofs.Ytnlmhnbogleijaa
