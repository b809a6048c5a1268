/- decompilerref45: next, Inputs. -/
import Derived.Test.YtcddmggefmfkkaaCovE
namespace Go.Proofs.Ytcddmggefmfkkaa
open Go.RowKit Go.Deco
set_option linter.unusedSimpArgs false
set_option linter.unusedVariables false

theorem ret_u2 {a b c d : Int} (h1 : a = c) (h2 : b = d) : Ending.returned (.tuple #[.int .u32 a, .int .u32 b]) = .returned (.tuple #[.int .u32 c, .int .u32 d]) := by rw [h1, h2]
set_option maxRecDepth 100000 in
set_option maxHeartbeats 1000000 in
theorem rnext_any (w : World) (g : Nat) (hg : g < 4294967296) :
    Calls Try.prog 38 #[.int .u32 g] w fun e w' => e = .returned (.tuple #[.int .u32 (stepG g : Nat), .int .u32 (numG (stepG g) : Nat)]) ∧ w = w' := by
  have hw : (1664525 * (g : Int) % 4294967296 + 1013904223) % 4294967296 = ((stepG g : Nat) : Int) := by unfold stepG; omega
  have hx := stepG_lt g
  obtain ⟨x, hxx⟩ : ∃ x, stepG g = x := ⟨_, rfl⟩
  rw [hxx] at hw hx ⊢
  clear hxx
  have HW := hid hw
  clear hw
  obtain ⟨v, hv⟩ : ∃ v, numG x = v := ⟨_, rfl⟩
  rw [hv]
  have HV := hid hv
  clear hv
  go_enter Try.func38, Try.ntmps38
  go_upto_region 2 with (fail)
  rw [HW.out]
  clear HW hg hx
  have hv := HV.out
  unfold numG at hv
  by_cases h1' : (x : Int) < 1073741824
  · rw [if_pos (by omega)] at hv
    have HV2 := hid hv
    clear hv
    go_wp2
    go_ret2
    exact ⟨ret_u2 rfl (by rw [← HV2.out]; rfl), rfl⟩
  · rw [if_neg (by omega)] at hv
    by_cases h2' : (x : Int) < 2147483648
    · rw [if_pos (by omega)] at hv
      have HV2 := hid hv
      clear hv
      go_wp2
      go_ret2
      exact ⟨ret_u2 rfl (by rw [← HV2.out]; rfl), rfl⟩
    · rw [if_neg (by omega)] at hv
      by_cases h3' : (x : Int) < 3221225472
      · rw [if_pos (by omega)] at hv
        have HV2 := hid hv
        clear hv
        go_wp2
        go_ret2
        exact ⟨ret_u2 rfl (by rw [← HV2.out]; omega), rfl⟩
      · rw [if_neg (by omega)] at hv
        have HV2 := hid hv
        clear hv
        go_wp2
        go_ret2
        exact ⟨ret_u2 rfl (by rw [← HV2.out]), rfl⟩

theorem row_step (g j q : Nat) : rowI g j (q + 1) = rowI g j q ++ [cellI g j q] := by
  rw [rowI, List.range_succ, List.map_append]
  rfl
theorem row_len (g j q : Nat) : (rowI g j q).length = q := by simp [rowI]

set_option maxRecDepth 100000 in
set_option maxHeartbeats 4000000 in
theorem rinputs_any (w : World) (seed : Nat) (hs : seed < 4294967296) (n length : Int) (hl : length ≤ 20) :
    Calls Try.prog 19 #[.int .u32 seed, .int .i64 n, .int .i64 length] w (ListsOf w (inputsI seed (numI n) length.toNat)) := by
  obtain ⟨i0, hi, hz0, hz1, hz2⟩ := info_parts info_w32
  obtain ⟨j0, hj, hj0, hj1, hj2⟩ := info_parts info_u32s
  have HI := hid hi
  have HZ0 := hid hz0
  have HZ1 := hid hz1
  have HZ2 := hid hz2
  have HJ := hid hj
  have HJ0 := hid hj0
  have HJ1 := hid hj1
  have HJ2 := hid hj2
  obtain ⟨N, hNN⟩ : ∃ N, numI n = N := ⟨_, rfl⟩
  obtain ⟨z, hz⟩ : ∃ z : Int, min n 256 = z := ⟨_, rfl⟩
  have hzN : ∀ j : Nat, j ≤ N → ((j : Int) < z ↔ j < N) := by
    intro j hj
    rw [← hz, ← hNN, numI]
    omega
  have hNl : N ≤ 256 := by rw [← hNN]; exact Nat.min_le_right _ _
  obtain ⟨y, hy⟩ : ∃ y : Int, min length 4096 = y := ⟨_, rfl⟩
  obtain ⟨len, hlen⟩ : ∃ len, length.toNat = len := ⟨_, rfl⟩
  have hyN : ∀ j : Nat, j ≤ len → ((j : Int) < y ↔ j < len) := by
    intro j hj
    rw [← hy, ← hlen]
    omega
  have hll : len ≤ 20 := by omega
  rw [hNN, hlen]
  have HZN := hid hzN
  have HYN := hid hyN
  clear hi hz0 hz1 hz2 hj hj0 hj1 hj2 hNN hlen hzN hyN
  go_enter Try.func19, Try.ntmps19
  go_wp2
  go_loopw [0, 7, 8] (fun s v i wr => ∃ (j : Nat) (A1 : Option Addr) (c1 : Nat) (o : List (List Nat)), j ≤ N ∧ s = .int .u32 (stateI seed len j : Nat) ∧ i = .int .i64 j ∧ v = .slice A1 o.length c1 ∧ Hid (o.length = j) ∧ Hid (OwnS (slR u32R) wr w.heap.size 23 All (.slice A1 o.length c1) o) ∧ Hid (Ext w wr) ∧ Hid (o = inputsI seed j len)) (fun _ _ i _ => N - (intOf i).toNat)
  case atStart => exact ⟨0, none, 0, [], by omega, rfl, rfl, rfl, hid rfl, hid OwnS.nil, hid (Ext.refl _), hid rfl⟩
  case round =>
    obtain ⟨j, A1, c1, o, hj, rfl, rfl, rfl, hoj, HO, HX, HOE⟩ := hrel
    have hlt := HZN.out j hj
    by_cases h1 : j < N
    · have hjz : (j : Int) < z := hlt.2 h1
      have hg32 := stateI_lt hs len j
      have hin : inputsI seed (j + 1) len = inputsI seed j len ++ [rowI (stateI seed len j) j len] := by
        rw [inputsI, inputsI, List.range_succ, List.map_append]
        rfl
      have hba := box_all seed len j
      obtain ⟨g, hg⟩ : ∃ g, stateI seed len j = g := ⟨_, rfl⟩
      rw [hg] at hg32 hin hba ⊢
      have HIN := hid hin
      have HBA := hid hba
      clear hin hba hg hlt
      go_wp2
      have hV : ∃ V, V = wr := ⟨_, rfl⟩
      obtain ⟨V, rfl⟩ := hV
      go_loopw [0, 9, 10] (fun s v i wi => ∃ (q : Nat) (A2 : Option Addr) (c2 : Nat), q ≤ len ∧ s = .int .u32 (boxI g j q : Nat) ∧ v = .slice A2 q c2 ∧ i = .int .i64 q ∧ Hid (Ext V wi) ∧ Hid (OwnS u32R wi V.heap.size 36 Nowhere (.slice A2 q c2) (rowI g j q))) (fun _ _ i _ => len - (intOf i).toNat)
      case atStart => exact ⟨0, none, 0, by omega, by rw [box_zero], rfl, rfl, hid (Ext.refl _), hid OwnS.nil⟩
      case round =>
        obtain ⟨q, A2, c2, hq, rfl, rfl, rfl, HVW, HR⟩ := hrel
        have hlt := HYN.out q hq
        by_cases h2 : q < len
        · have hqy : (q : Int) < y := hlt.2 h2
          have hc32 := hid (cellI_lt (j := j) (q := q) hg32 (by omega))
          have HST := hid (row_step g j q)
          clear hlt
          obtain ⟨wi, hwi⟩ : ∃ wi, wi = wr := ⟨_, rfl⟩
          subst hwi
          by_cases h3 : 3 ≤ j
          · have hbx := box_step (g := g) (i := q) h3
            have hbc := box_cell (g := g) (i := q) h3
            have HBX := hid hbx
            have HBC := hid hbc
            have hn0 : ((j : Int) == 0) = false := by simp; omega
            have hn1 : ((j : Int) == 1) = false := by simp; omega
            have hn2 : ((j : Int) == 2) = false := by simp; omega
            clear hbx hbc h3
            go_wp2_with fail
            refine (rnext_any wi (boxI g j q) (box_lt hg32 _ _)).mono ?_
            rintro e w3 ⟨rfl, rfl⟩
            rw [HBX.out, HBC.out]
            obtain ⟨cl, hcc⟩ : ∃ cl, cellI g j q = cl := ⟨_, rfl⟩
            rw [hcc] at HST hc32 ⊢
            clear hcc
            go_wp2_with (first
              | (at_builtin; (refine wpList_app1s rfl (.tmp 32) (.tmp 34) 23 rfl V.heap.size 36 i0 _ 1 4 Try.underlying23 HI.out HZ0.out HZ1.out HZ2.out rfl u32R rfl (.slice A2 q c2) (rowI g j q) rfl HR.out wi.heap.size rfl cl rfl ⟨rfl, hc32.out⟩ (by rw [row_len]; omega) (by rw [row_len]; omega) (by exact HVW.out.size) ?_; intro A5 c5 w5 hown5 hg5; rw [row_len] at hown5; have HO5 := hid hown5; have HX5 := hid ((HVW.out.alloc _).grown hg5 (fun k hk => (HR.out.block _ hk).1)); clear hown5 hg5; rw [row_len]))
              | fail)
            first
              | go_roundw
              | refine ⟨?rel, ?measure⟩
            case rel => exact ⟨q + 1, A5, c5, by omega, rfl, rfl, by go_num, HX5, hid (by rw [HST.out]; exact HO5.out)⟩
            case measure => simp [intOf]; omega
          · have hbx := box_low (g := g) (i := q) (show j < 3 by omega)
            have HBX := hid hbx
            have h4 : j = 0 ∨ j = 1 ∨ j = 2 := by omega
            have hq1 : IntKind.u32.wrap (q : Int) = q := IntWalk.u32_in _ (by omega)
            have hq2 : (q : Int) % 4294967296 = q := by omega
            clear hbx h3
            rcases h4 with rfl | rfl | rfl
            ·
              go_wp2_with (first
                | (at_builtin; (refine wpList_app1s rfl (.tmp 38) (.tmp 39) 23 rfl V.heap.size 36 i0 _ 1 4 Try.underlying23 HI.out HZ0.out HZ1.out HZ2.out rfl u32R rfl (.slice A2 q c2) (rowI g 0 q) rfl HR.out wi.heap.size rfl 0 rfl ⟨rfl, (by omega)⟩ (by rw [row_len]; omega) (by rw [row_len]; omega) (by exact HVW.out.size) ?_; intro A5 c5 w5 hown5 hg5; rw [row_len] at hown5; have HO5 := hid hown5; have HX5 := hid ((HVW.out.alloc _).grown hg5 (fun k hk => (HR.out.block _ hk).1)); clear hown5 hg5; rw [row_len]))
                | fail)
              first
                | go_roundw
                | refine ⟨?rel, ?measure⟩
              case rel =>
                (repeat apply Exists.intro)
                refine ⟨?_, rfl⟩
                exact ⟨q + 1, A5, c5, by omega, by rw [HBX.out], rfl, by go_num, HX5, hid (by rw [HST.out]; exact HO5.out)⟩
              case measure => simp [intOf]; omega
            ·
              go_wp2_with (first
                | (at_builtin; (refine wpList_app1s rfl (.tmp 43) (.tmp 44) 23 rfl V.heap.size 36 i0 _ 1 4 Try.underlying23 HI.out HZ0.out HZ1.out HZ2.out rfl u32R rfl (.slice A2 q c2) (rowI g 1 q) rfl HR.out wi.heap.size rfl 4294967295 rfl ⟨rfl, (by omega)⟩ (by rw [row_len]; omega) (by rw [row_len]; omega) (by exact HVW.out.size) ?_; intro A5 c5 w5 hown5 hg5; rw [row_len] at hown5; have HO5 := hid hown5; have HX5 := hid ((HVW.out.alloc _).grown hg5 (fun k hk => (HR.out.block _ hk).1)); clear hown5 hg5; rw [row_len]))
                | fail)
              first
                | go_roundw
                | refine ⟨?rel, ?measure⟩
              case rel =>
                (repeat apply Exists.intro)
                refine ⟨?_, rfl⟩
                exact ⟨q + 1, A5, c5, by omega, by rw [HBX.out], rfl, by go_num, HX5, hid (by rw [HST.out]; exact HO5.out)⟩
              case measure => simp [intOf]; omega
            ·
              go_wp2_with (first
                | (at_builtin; (refine wpList_app1s rfl (.tmp 48) (.tmp 51) 23 rfl V.heap.size 36 i0 _ 1 4 Try.underlying23 HI.out HZ0.out HZ1.out HZ2.out rfl u32R rfl (.slice A2 q c2) (rowI g 2 q) rfl HR.out wi.heap.size rfl q rfl ⟨rfl, (by omega)⟩ (by rw [row_len]; omega) (by rw [row_len]; omega) (by exact HVW.out.size) ?_; intro A5 c5 w5 hown5 hg5; rw [row_len] at hown5; have HO5 := hid hown5; have HX5 := hid ((HVW.out.alloc _).grown hg5 (fun k hk => (HR.out.block _ hk).1)); clear hown5 hg5; rw [row_len]))
                | fail)
              first
                | go_roundw
                | refine ⟨?rel, ?measure⟩
              case rel =>
                (repeat apply Exists.intro)
                refine ⟨?_, rfl⟩
                exact ⟨q + 1, A5, c5, by omega, by rw [HBX.out], rfl, by go_num, HX5, hid (by rw [HST.out]; exact HO5.out)⟩
              case measure => simp [intOf]; omega
        · have hqy : ¬ ((q : Int) < y) := fun h => h2 (hlt.1 h)
          obtain rfl : q = len := by omega
          have hol : o.length ≤ 256 := by have := hoj.out; omega
          have hbo := HO.out.block
          have HSL := hid (HR.out.num_sl (S := fun b => All b ∧ some b ≠ (Value.slice A1 o.length c1).ownBlock) (fun k hk => ⟨trivial, fun e => by have := (hbo k e.symm).2; omega⟩))
          have HO2 := hid (HO.out.ext HVW.out)
          have HX2 := hid (HX.out.trans HVW.out)
          clear hbo hlt
          rw [HBA.out]
          go_wp2_with (first
            | (at_builtin; (refine wpList_app1s rfl (.tmp 53) (.tmp 55) 38 rfl w.heap.size 23 j0 _ 1 24 Try.underlying38 HJ.out HJ0.out HJ1.out HJ2.out rfl (slR u32R) rfl (.slice A1 o.length c1) o rfl HO2.out wr.heap.size rfl (rowI g j q) rfl ⟨.slice A2 q c2, rfl, HSL.out⟩ (by omega) (by omega) HX2.out.size ?_; intro A5 c5 w5 hown5 hg5; have HO5 := hid hown5; have HX5 := hid ((HX2.out.alloc _).grown hg5 (fun k hk => by have := (HO2.out.block _ hk).1; omega)); clear hown5 hg5))
            | fail)
          first
            | go_roundw
            | refine ⟨?rel, ?measure⟩
          case rel => exact ⟨j + 1, A5, c5, o ++ [rowI g j q], by omega, rfl, by go_num, by simp, hid (by have := hoj.out; simp [this]), hid (by simpa using HO5.out), HX5, hid (by rw [HIN.out, HOE.out])⟩
          case measure => simp [intOf]; omega
    · have hjz : ¬ ((j : Int) < z) := fun h => h1 (hlt.1 h)
      obtain rfl : j = N := by omega
      have e := HOE.out
      subst e
      clear hlt
      go_wp2
      go_ret
      exact ⟨HX.out, A1, c1, rfl, HO.out.sl⟩
end Go.Proofs.Ytcddmggefmfkkaa
