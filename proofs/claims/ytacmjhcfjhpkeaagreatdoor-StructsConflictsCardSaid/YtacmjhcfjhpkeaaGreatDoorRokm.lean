/- decompilerref34.Strides. decompilerref34.Layout: turned from StrF by wip/turnrk.py. -/
import Derived.Test.YtacmjhcfjhpkeaaGreatDoorRfGm
import Derived.Test.YtacmjhcfjhpkeaaGreatDoorSglm
import Derived.Test.YtacmjhcfjhpkeaaGreatDoorRfJm
namespace Go.Proofs.YtacmjhcfjhpkeaaGreatDoor
open Go.RowKit Go.Deco
set_option linter.unusedSimpArgs false
set_option linter.unusedVariables false

/-- The offsets of the valid accesses as fields without type. -/
def offF (l : List Acc) : List (Int × Ty) := (l.filter validA).map fun a => (a.off, Ty.unk)
def numF (S : List (Int × Ty)) : List Nat := S.map fun f => f.1.toNat
theorem offF_snoc {l : List Acc} {k : Nat} {x : Acc} (hx : l[k]? = some x) : offF (l.take (k + 1)) = if validA x = true then offF (l.take k) ++ [(x.off, Ty.unk)] else offF (l.take k) := by
  unfold offF
  rw [take_snoc' hx, List.filter_append]
  by_cases h : validA x = true <;> simp [h]
theorem offF_mem {l : List Acc} {f : Int × Ty} (h : f ∈ offF l) : 0 ≤ f.1 ∧ f.1 ≤ 65532 := by
  obtain ⟨a, ha, rfl⟩ := List.mem_map.1 h
  have h := valid_iff.1 (List.mem_filter.1 ha).2
  exact ⟨h.2.1, h.2.2⟩
theorem numF_asc (l : List Acc) : asc (numF (stab ltF (offF l))) = asc (offN l) := by
  refine asc_eq fun a => ?_
  unfold numF offN
  simp only [List.mem_map]
  constructor
  · rintro ⟨f, hf, rfl⟩
    have hf := (stabF_mem _ f).1 hf
    obtain ⟨x, hx, rfl⟩ := List.mem_map.1 hf
    exact ⟨x, hx, rfl⟩
  · rintro ⟨x, hx, rfl⟩
    exact ⟨(x.off, Ty.unk), (stabF_mem _ _).2 (List.mem_map.2 ⟨x, hx, rfl⟩), rfl⟩
theorem numF_srt (l : List Acc) : (numF (stab ltF (offF l))).Pairwise (· ≤ ·) := by
  have h := srtF_of (stab_ok weakF (offF l)).1
  unfold numF
  rw [List.pairwise_map]
  exact h.imp fun {a b} h => by omega
theorem asc_prefix : ∀ (r l : List Nat), (l ++ r).Pairwise (· ≤ ·) → ∃ m, asc (l ++ r) = asc l ++ m := by
  intro r
  induction r using snoc_ind with
  | h0 => intro l _; exact ⟨[], by simp⟩
  | hs r x ih =>
    intro l h
    rw [← List.append_assoc] at h
    obtain ⟨m, hm⟩ := ih l (List.pairwise_append.1 h).1
    rw [← List.append_assoc]
    cases hl : (l ++ r).getLast? with
    | none =>
      have he : l ++ r = [] := List.getLast?_eq_none_iff.1 hl
      have h1 : l = [] := (List.append_eq_nil_iff.1 he).1
      have h2 : r = [] := (List.append_eq_nil_iff.1 he).2
      subst h1 h2
      exact ⟨asc ([] ++ [] ++ [x]), by simp [asc_nil]⟩
    | some y =>
      obtain ⟨-, h1, h2⟩ := asc_next hl h
      by_cases he : x = y
      · exact ⟨m, by rw [h1 he, hm]⟩
      · exact ⟨m ++ [x], by rw [h2 he, hm, List.append_assoc]⟩
theorem strSt_zero {L : List Nat} (hp : L.Pairwise (· < ·)) (h : strSt L = 0) : L.length < 2 := by
  rcases Nat.lt_or_ge L.length 2 with h2 | h2
  · exact h2
  · exfalso
    unfold strSt at h
    rw [if_neg (by omega)] at h
    obtain ⟨a, ha⟩ : ∃ a, L[0]? = some a := ⟨_, List.getElem?_eq_getElem (by omega)⟩
    obtain ⟨b, hb⟩ : ∃ b, L[1]? = some b := ⟨_, List.getElem?_eq_getElem (by omega)⟩
    obtain ⟨h0, e0⟩ := List.getElem?_eq_some_iff.1 ha
    obtain ⟨h1, e1⟩ := List.getElem?_eq_some_iff.1 hb
    have := (List.pairwise_iff_getElem.1 hp) 0 1 h0 h1 (by omega)
    unfold gapN at h
    rw [List.getD_eq_getElem?_getD, List.getD_eq_getElem?_getD, hb, ha] at h
    have h3 : (b : Int) - (a : Int) = 0 := h
    omega
/-- One step of the search for the distance. -/
theorem str_step {N : List Nat} {i x y : Nat} (hs : N.Pairwise (· ≤ ·)) (hi : 1 ≤ i) (hx : N[i]? = some x) (hy : N[i - 1]? = some y) (hst : stepAll (asc (N.take i)) = true) :
    y ≤ x ∧ (x = y → strSt (asc (N.take (i + 1))) = strSt (asc (N.take i)) ∧ stepAll (asc (N.take (i + 1))) = true) ∧
    (x ≠ y → (strSt (asc (N.take i)) = 0 ∨ (x : Int) - (y : Int) = strSt (asc (N.take i))) → strSt (asc (N.take (i + 1))) = (x : Int) - (y : Int) ∧ stepAll (asc (N.take (i + 1))) = true) ∧
    (x ≠ y → strSt (asc (N.take i)) ≠ 0 → (x : Int) - (y : Int) ≠ strSt (asc (N.take i)) → strideL (asc N) = (0, false)) := by
  have hlx := (List.getElem?_eq_some_iff.1 hx).1
  have ht : N.take (i + 1) = N.take i ++ [x] := take_snoc' hx
  have hlast : (N.take i).getLast? = some y := by
    rw [List.getLast?_eq_getElem?, List.length_take, List.getElem?_take, if_pos (by omega), Nat.min_eq_left (by omega)]
    exact hy
  have hss : (N.take i ++ [x]).Pairwise (· ≤ ·) := by rw [← ht]; exact hs.sublist (List.take_sublist _ _)
  obtain ⟨hal, h1, h2⟩ := asc_next hlast hss
  have hyx : y ≤ x := (List.pairwise_append.1 hss).2.2 y (List.mem_of_getLast? hlast) x (by simp)
  have hstep := strSt_step (x := x) hal hst
  refine ⟨hyx, fun e => ?_, fun e hd => ?_, fun e h0 hd => ?_⟩
  · rw [ht, h1 e]; exact ⟨rfl, hst⟩
  · rw [ht, h2 e]
    obtain ⟨-, g2, g3⟩ := hstep (by omega)
    rcases Nat.lt_or_ge (asc (N.take i)).length 2 with h | h
    · exact g2 h
    · rcases hd with hd | hd
      · exact absurd (strSt_zero (asc_pw _) hd) (by omega)
      · obtain ⟨g4, g5⟩ := g3 h
        exact ⟨by rw [g4, hd], by rw [g5]; exact decide_eq_true hd⟩
  · obtain ⟨-, -, g3⟩ := hstep (by omega)
    have hl2 : 2 ≤ (asc (N.take i)).length := by
      rcases Nat.lt_or_ge (asc (N.take i)).length 2 with h | h
      · exact absurd (show strSt (asc (N.take i)) = 0 by unfold strSt; rw [if_pos h]) h0
      · exact h
    have g5 := (g3 hl2).2
    rw [decide_eq_false hd] at g5
    obtain ⟨m, hm⟩ := asc_prefix (N.drop (i + 1)) (N.take (i + 1)) (by rw [List.take_append_drop]; exact hs)
    rw [List.take_append_drop] at hm
    refine strideL_not ?_
    cases h : stepAll (asc N) with
    | false => rfl
    | true =>
      rw [hm] at h
      have h3 := stepAll_take h
      rw [ht, h2 e, g5] at h3
      cases h3
set_option maxRecDepth 100000 in
set_option maxHeartbeats 4000000 in
theorem rstrides_any (w : World) (A : Option Addr) (n c : Nat) (l : List Acc) (hl : Sl accR w All (.slice A n c) l) (hn : n ≤ 100000) :
    Calls Tryz.prog 25 #[.slice A n c] w (StrideIs w (strideL (asc (offN l)))) := by
  have hln := hl.len
  obtain ⟨R, hR⟩ : ∃ R, strideL (asc (offN l)) = R := ⟨_, rfl⟩
  rw [hR]
  rw [← numF_asc] at hR
  have HR := hid hR
  have HLN := hid hln
  have HL := hid hl
  clear hln hl hR
  unfold StrideIs
  go_enter Tryz.func25, Tryz.ntmps25
  go_wp2
  go_loopw [5, 4] (fun i s4 wr => ∃ (k m : Nat) (A2 : Option Addr) (c2 : Nat), k ≤ n ∧ m ≤ k ∧ i = .int .i64 k ∧ s4 = .slice A2 m c2 ∧ Hid ((offF (l.take k)).length = m) ∧ Hid (Sl (fdR (tyR 1)) wr (fun b => w.heap.size ≤ b) (.slice A2 m c2) (stab ltF (offF (l.take k)))) ∧ Hid (Ext w wr)) (fun i _ _ => n - (intOf i).toNat)
  case atStart => exact ⟨0, 0, none, 0, by omega, by omega, rfl, rfl, hid rfl, hid Sl.nil, hid (Ext.refl _)⟩
  case round =>
    obtain ⟨k, m, A2, c2, hk, hm, rfl, rfl, HXL, HO, HX⟩ := hrel
    by_cases h1 : k < n
    · obtain ⟨x, hx⟩ : ∃ x, l[k]? = some x := ⟨_, List.getElem?_eq_getElem (by have := HLN.out; omega)⟩
      obtain ⟨b, off, rfl, x0, x1, x2, x3, hi0, hi1, hi2⟩ := (HL.out.ext HX.out).acc_at hx
      have hsn := offF_snoc hx
      obtain ⟨z, hz⟩ : ∃ z, validA x = z := ⟨_, rfl⟩
      have HVC := hid (fun (w' : World) => isvalid_any w' x)
      rw [hz] at HVC hsn
      have HSN := hid hsn
      have HI1 := hid hi1
      unfold accV at HVC
      obtain ⟨xb, xo, xw, xs⟩ := x
      simp only at x0 x1 x2 x3 HVC HSN HI1
      have hkn : (k : Int) < (n : Int) := by omega
      clear hx hi0 hi1 hi2 hz hsn
      go_wp2_with fail
      refine (HVC.out _).mono ?_
      rintro e w5 ⟨rfl, hx5⟩
      have x1 := hx5.cell x1
      have HX5 := hid (HX.out.trans hx5)
      have HO5 := hid (HO.out.ext hx5)
      clear hx5 x0 x2 x3
      cases z with
      | false =>
        have HSN2 : Hid (offF (l.take (k + 1)) = offF (l.take k)) := hid (by rw [HSN.out]; simp)
        clear x1
        go_wp2
        first
          | go_roundw
          | refine ⟨?rel, ?measure⟩
        case rel => exact ⟨k + 1, m, A2, c2, by omega, by omega, by go_num, rfl, hid (by rw [HSN2.out]; exact HXL.out), hid (by rw [HSN2.out]; exact HO5.out), HX5⟩
        case measure => simp [intOf]; omega
      | true =>
        have HSN2 : Hid (offF (l.take (k + 1)) = offF (l.take k) ++ [(xo, Ty.unk)]) := hid (by rw [HSN.out]; simp)
        have HIC := hid (rins_any 0 _ w5 A2 m c2 _ HO5.out (by omega) (xo, Ty.unk) (.agg #[.int .i64 xo, .int .i64 0, .int .i64 0, .int .i64 0, .slice none 0 0, .slice none 0 0]) ⟨none, 0, 0, none, 0, 0, rfl, HI1.out, tyV_leaf 0 w5 _ 0 0 (by unfold i64b; omega) (by unfold i64b; omega)⟩)
        go_wp2_with fail
        refine (HIC.out).mono ?_
        rintro e w6 ⟨A6, c6, rfl, hs6, hx6⟩
        have hlen : (insR ltF (xo, Ty.unk) (stab ltF (offF (l.take k)))).length = m + 1 := by rw [insR_len, stab_len, HXL.out]
        rw [hlen] at hs6 ⊢
        have HX6 := hid (HX5.out.trans hx6)
        have HS6 : Hid (Sl (fdR (tyR 1)) w6 (fun b => w.heap.size ≤ b) (.slice A6 (m + 1) c6) (stab ltF (offF (l.take (k + 1))))) := hid (by
          rw [HSN2.out, stab_snoc]
          refine hs6.mono fun b hb _ => ?_
          rcases hb with hb | hb
          · exact hb
          · have := HX5.out.size
            show w.heap.size ≤ b
            omega)
        clear hs6 hx6 hlen x1
        go_wp2
        first
          | go_roundw
          | refine ⟨?rel, ?measure⟩
        case rel => exact ⟨k + 1, m + 1, A6, c6, by omega, by omega, by go_num, rfl, hid (by rw [HSN2.out, List.length_append, HXL.out]; rfl), HS6, HX6⟩
        case measure => simp [intOf]; omega
    · have hkn : ¬ (k : Int) < (n : Int) := by omega
      obtain rfl : k = n := by omega
      have ho := HO.out
      have hxl := HXL.out
      rw [List.take_of_length_le (by have := HLN.out; omega)] at ho hxl
      obtain ⟨S, hS⟩ : ∃ S, stab ltF (offF l) = S := ⟨_, rfl⟩
      have hsl : m = S.length := by rw [← hS, stab_len, hxl]
      have hsrt := numF_srt l
      have hmem : ∀ f ∈ S, 0 ≤ f.1 ∧ f.1 ≤ 65532 := fun f hf => by rw [← hS] at hf; exact offF_mem ((stabF_mem _ f).1 hf)
      have hr := HR.out
      rw [hS] at ho hsrt hr
      have HS := hid ho
      have HSL := hid hsl
      have HSRT := hid hsrt
      have HMEM := hid hmem
      have HR2 := hid hr
      clear ho hxl hS hsl hsrt hmem hr HO HXL HR
      obtain ⟨V, hV⟩ : ∃ V, V = wr := ⟨_, rfl⟩
      obtain rfl := hV
      go_wp2
      go_loopw [7, 6] (fun i s6 wr => ∃ (j : Nat) (st : Int), 1 ≤ j ∧ (j ≤ m ∨ j = 1) ∧ i = .int .i64 j ∧ s6 = .int .i64 st ∧ Hid (strSt (asc ((numF S).take j)) = st ∧ stepAll (asc ((numF S).take j)) = true) ∧ Hid (Ext V wr)) (fun i _ _ => m + 1 - (intOf i).toNat)
      case atStart =>
        refine ⟨1, 0, by omega, .inr rfl, rfl, rfl, hid ?_, hid (Ext.refl _)⟩
        have h2 : (asc ((numF S).take 1)).length < 2 := by
          have h3 := asc_len ((numF S).take 1)
          rw [List.length_take] at h3
          omega
        refine ⟨by unfold strSt; rw [if_pos h2], stepAll_true fun k hk => by omega⟩
      case round =>
        obtain ⟨j, st, hj0, hj1, rfl, rfl, HST, HX2⟩ := hrel
        by_cases h2 : j < m
        · obtain ⟨f, hf⟩ : ∃ f, S[j]? = some f := ⟨_, List.getElem?_eq_getElem (by have := HSL.out; omega)⟩
          obtain ⟨g, hg⟩ : ∃ g, S[j - 1]? = some g := ⟨_, List.getElem?_eq_getElem (by have := HSL.out; omega)⟩
          obtain ⟨d1, b, off, A7, n7, c7, B7, m7, e7, hd1, rfl, -, -, f0, -⟩ := (HS.out.ext HX2.out).fd_at hf
          obtain ⟨d3, b2, off2, A8, n8, c8, B8, m8, e8, hd2, hbo, -, -, g0, -⟩ := (HS.out.ext HX2.out).fd_at hg
          obtain ⟨rfl, rfl⟩ : b = b2 ∧ off = off2 := by simpa using hbo
          obtain ⟨hf1, hf2⟩ := HMEM.out f (List.mem_of_getElem? hf)
          obtain ⟨hg1, hg2⟩ := HMEM.out g (List.mem_of_getElem? hg)
          obtain ⟨x, hx⟩ : ∃ x : Nat, f.1 = (x : Int) := ⟨f.1.toNat, by omega⟩
          obtain ⟨y, hy⟩ : ∃ y : Nat, g.1 = (y : Int) := ⟨g.1.toNat, by omega⟩
          have hnx : (numF S)[j]? = some x := by unfold numF; rw [List.getElem?_map, hf]; simp [hx]
          have hny : (numF S)[j - 1]? = some y := by unfold numF; rw [List.getElem?_map, hg]; simp [hy]
          have hstep := str_step HSRT.out hj0 hnx hny HST.out.2
          rw [HST.out.1, HR2.out] at hstep
          rw [hx] at f0
          rw [hy] at g0
          have HSTEP := hid hstep
          have hjm : (j : Int) < (m : Int) := by omega
          have w1 : IntKind.i64.wrap ((j - 1 : Nat) : Int) = ((j - 1 : Nat) : Int) := IntWalk.i64_in _ (by omega)
          have w2 : IntKind.i64.wrap ((x : Int) - (y : Int)) = (x : Int) - (y : Int) := IntWalk.i64_in _ (by omega)
          have hj2 : ((j - 1 : Nat) : Int) < (m : Int) := by omega
          have hj3 : (j : Int) - 1 = ((j - 1 : Nat) : Int) := by omega
          clear hd1 hd2 hbo hf hg hf1 hf2 hg1 hg2 hx hy hnx hny hstep
          go_wp2_with fail
          refine wp_region_held_drew (S := (fun w' => w'.cell? ⟨b, off + j * 6, none⟩ = some (.int .i64 x) ∧ w'.cell? ⟨b, off + (j - 1) * 6, none⟩ = some (.int .i64 y))) (by kernel_rfl) ⟨f0, g0⟩ (fun hSg92q0 => ?_)
          refine rgT 0 ?_
          refine rgT 1 ?_
          refine rgT 2 ?_
          refine rgT 3 ?_
          refine rgT 4 ?_
          refine rgT 5 ?_
          refine rgT 6 ?_
          refine rgT 7 ?_
          refine rgT 8 ?_
          refine rgT 9 ?_
          refine rgT 10 ?_
          refine rgT 11 ?_
          refine rgT 12 ?_
          refine wpAnyH_done (by kernel_rfl) ?_ _
          clear f0 g0 w1
          by_cases he : x = y
          · have h3 := HSTEP.out.2.1 he
            have HN := hid h3
            have g1 : ((x : Int) - (y : Int) == 0) = true := by simp; omega
            clear he h3
            go_wp2
            first
              | go_roundw
              | refine ⟨?rel, ?measure⟩
            case rel => exact ⟨j + 1, st, by omega, .inl (by omega), by go_num, rfl, hid HN.out, hid HX2.out.drew⟩
            case measure => simp [intOf]; omega
          · have g1 : ((x : Int) - (y : Int) == 0) = false := by simp; omega
            by_cases h0 : st = 0
            · have g2 : (st != 0) = false := by simp [h0]
              have HN := hid (HSTEP.out.2.2.1 he (.inl h0))
              clear he h0
              go_wp2
              first
                | go_roundw
                | refine ⟨?rel, ?measure⟩
              case rel => exact ⟨j + 1, _, by omega, .inl (by omega), by go_num, rfl, HN, hid HX2.out.drew⟩
              case measure => simp [intOf]; omega
            · have g2 : (st != 0) = true := by simp [h0]
              by_cases h3 : (x : Int) - (y : Int) = st
              · have g3 : ((x : Int) - (y : Int) != st) = false := by simp [h3]
                have HN := hid (HSTEP.out.2.2.1 he (.inr h3))
                clear he h0 h3
                go_wp2
                first
                  | go_roundw
                  | refine ⟨?rel, ?measure⟩
                case rel => exact ⟨j + 1, _, by omega, .inl (by omega), by go_num, rfl, HN, hid HX2.out.drew⟩
                case measure => simp [intOf]; omega
              · have g3 : ((x : Int) - (y : Int) != st) = true := by simp [h3]
                have HRV : Hid (R = (0, false)) := hid (HSTEP.out.2.2.2 he h0 h3)
                clear he h0 h3
                go_wp2
                go_ret2
                exact ⟨by rw [HRV.out]; rfl, HX.out.trans HX2.out.drew⟩
        · have hjm : ¬ (j : Int) < (m : Int) := by omega
          have hst := HST.out
          rw [List.take_of_length_le (by unfold numF; rw [List.length_map, ← HSL.out]; omega)] at hst
          have HRV : Hid (R = (st, !decide (st = 0))) := hid (by rw [← HR2.out, strideL_of hst.2 (asc_pw _), hst.1])
          clear hst
          go_wp2
          go_ret2
          refine ⟨?_, HX.out.trans HX2.out⟩
          rw [HRV.out]
          by_cases h0 : st = 0
          · subst h0; rfl
          · simp [h0]
end Go.Proofs.YtacmjhcfjhpkeaaGreatDoor

namespace Go.Proofs.YtacmjhcfjhpkeaaGreatDoor
open Go.RowKit Go.Deco
set_option linter.unusedSimpArgs false
set_option linter.unusedVariables false

set_option maxRecDepth 100000 in
set_option maxHeartbeats 8000000 in
theorem rlayout_any (w : World) (A : Option Addr) (n c : Nat) (l : List Acc) (hl : Sl accR w All (.slice A n c) l) :
    Calls Tryz.prog 20 #[.slice A n c] w (TyErr 4 (fun _ => False) w (layoutA l)) := by
  have hln := hl.len
  obtain ⟨hnc, hcm⟩ := hl.cap
  obtain ⟨R, hR⟩ : ∃ R, layoutA l = R := ⟨_, rfl⟩
  have hRR := hR
  unfold layoutA at hRR
  obtain ⟨hb, hhb⟩ : ∃ hb, ((l.head?.map Acc.base).getD 0) = hb := ⟨_, rfl⟩
  rw [hhb] at hRR
  obtain ⟨P, hP⟩ : ∃ P : Acc → Bool, (fun a => validA a && decide (a.base = hb)) = P := ⟨_, rfl⟩
  rw [hP] at hRR
  rw [hR]
  have HRR := hid hRR
  have HHB := hid hhb
  have HP := hid (fun a => congrFun hP.symm a)
  have HLN := hid hln
  obtain ⟨W0, hW0⟩ : ∃ W0, w.alloc (.cells #[.int .i64 0, .int .i64 0, .int .i64 0, .slice none 0 0, .slice none 0 0] 25) = W0 := ⟨_, rfl⟩
  have hE0 : Ext w W0 := by rw [← hW0]; exact (Ext.refl w).alloc _
  have HB0 : Hid (Box5 W0 w.heap.size (.int .i64 0) (.int .i64 0) (.int .i64 0) (.slice none 0 0) (.slice none 0 0)) := hid (by rw [← hW0]; exact Box5.new w _ _ _ _ _ _)
  have HE0 := hid hE0
  have HL := hid (hl.ext hE0)
  obtain ⟨i0, hi0, hz0, hz1, hz2⟩ := info_parts info_fd
  have HI := hid hi0
  have HI0 := hid hz0
  have HI1 := hid hz1
  have HI2 := hid hz2
  clear hi0 hz0 hz1 hz2 hln hl hR hRR hhb hP hE0
  unfold TyErr
  by_cases h64 : 1024 < n
  · have d1 : decide ((n : Int) > 1024) = true := decide_eq_true (by omega)
    have HRV : Hid (R = (Ty.unk, 6)) := hid (by rw [← HRR.out, if_pos (by have := HLN.out; omega)])
    have r0 := HB0.out.1
    have r1 := HB0.out.2.1
    have r2 := HB0.out.2.2.1
    have r3 := HB0.out.2.2.2.1
    have r4 := HB0.out.2.2.2.2.1
    have f0 := HB0.out.2.2.2.2.2 0
    have f1 := HB0.out.2.2.2.2.2 1
    have f2 := HB0.out.2.2.2.2.2 2
    have f3 := HB0.out.2.2.2.2.2 3
    have f4 := HB0.out.2.2.2.2.2 4
    have hc := set5_cells r0 r1 r2 r3 r4 (.int .i64 0) (.int .i64 0) (.int .i64 0) (.slice none 0 0) (.slice none 0 0)
    have hx := set5_ext HE0.out (Nat.le_refl _) (.int .i64 0) (.int .i64 0) (.int .i64 0) (.slice none 0 0) (.slice none 0 0)
    obtain ⟨W6, hW6⟩ : ∃ W6, ((((W0.setCell ⟨w.heap.size, 0, none⟩ (.int .i64 0)).setCell ⟨w.heap.size, 1, none⟩ (.int .i64 0)).setCell ⟨w.heap.size, 2, none⟩ (.int .i64 0)).setCell ⟨w.heap.size, 3, none⟩ (.slice none 0 0)).setCell ⟨w.heap.size, 4, none⟩ (.slice none 0 0) = W6 := ⟨_, rfl⟩
    rw [hW6] at hc hx
    obtain ⟨t0, t1, t2, t3, t4⟩ := hc
    have HX6 := hid hx
    have HW6 := hid hW6
    clear hx hW6
    go_enter Tryz.func20, Tryz.ntmps20
    go_wp2
    rw [HW6.out]
    clear r0 r1 r2 r3 r4
    refine bodyPost_ret (v := .tuple #[.agg #[.int .i64 0, .int .i64 0, .int .i64 0, .slice none 0 0, .slice none 0 0], .int .i64 6]) (by simp [results, Tryz.results20, go_sem, t0, t1, t2, t3, t4]) rfl ?_
    refine ⟨_, by rw [HRV.out]; rfl, ?_, HX6.out⟩
    rw [HRV.out]
    exact tyV_leaf _ _ _ 0 0 (by unfold i64b; omega) (by unfold i64b; omega)
  · have d1 : decide ((n : Int) > 1024) = false := decide_eq_false (by omega)
    have hn : n ≤ 1024 := by omega
    clear h64
    go_enter Tryz.func20, Tryz.ntmps20
    go_wp2
    go_loopw [5, 4] (fun i s4 wr => ∃ (k : Nat) (A2 : Option Addr) (c2 : Nat), k ≤ n ∧ i = .int .i64 k ∧ s4 = .slice A2 k c2 ∧ Hid ((l.take k).all P = true) ∧ Hid (OwnS (fdR (tyR 1)) wr W0.heap.size 48 (fun b => w.heap.size < b) (.slice A2 k c2) ((l.take k).map partA)) ∧ Hid (Ext W0 wr)) (fun i _ _ => n - (intOf i).toNat)
    case atStart => exact ⟨0, none, 0, by omega, rfl, rfl, hid (by simp), hid (by simpa using OwnS.nil), hid (Ext.refl _)⟩
    case round =>
      obtain ⟨k, A2, c2, hk, rfl, rfl, HAL, HO, HX⟩ := hrel
      by_cases h1 : k < n
      · obtain ⟨x, hx⟩ : ∃ x, l[k]? = some x := ⟨_, List.getElem?_eq_getElem (by have := HLN.out; omega)⟩
        obtain ⟨y, hy⟩ : ∃ y, l[0]? = some y := ⟨_, List.getElem?_eq_getElem (by have := HLN.out; omega)⟩
        have hyh : hb = y.base := by
          rw [← HHB.out]
          cases l with
          | nil => cases hy
          | cons a l => have e : a = y := by simpa using hy
                        rw [← e]; rfl
        obtain ⟨b, off, rfl, x0, x1, x2, x3, hi0, hi1, hi2⟩ := (HL.out.ext HX.out).acc_at hx
        obtain ⟨b', off', hbo, y0, -, -, -, -, -, -⟩ := (HL.out.ext HX.out).acc_at hy
        obtain ⟨rfl, rfl⟩ : b = b' ∧ off = off' := by simpa using hbo
        rw [Nat.zero_mul, Nat.add_zero] at y0
        rw [← hyh] at y0
        have hPx := HP.out x
        obtain ⟨z, hz⟩ : ∃ z, validA x = z := ⟨_, rfl⟩
        rw [hz] at hPx
        have HVC := hid (fun (w' : World) => isvalid_any w' x)
        rw [hz] at HVC
        have HPC := hid (fun (w' : World) => rpart_any w' x)
        have HFR := hid (fun (w' : World) (S : Nat → Prop) => fd_rel.2 (part_fdV 0 w' S x hi1 hi2))
        unfold partV at HFR HPC
        have HXX := hid hx
        have HPX := hid hPx
        have hmem := List.mem_of_getElem? hx
        have HMEM := hid hmem
        obtain ⟨kd, hkd⟩ : ∃ kd, kindA x = kd := ⟨_, rfl⟩
        rw [hkd] at HFR HPC
        unfold accV at HVC HPC
        obtain ⟨xb, xo, xw, xs⟩ := x
        simp only at x0 x1 x2 x3 HPX HVC HPC HFR
        have hkn : (k : Int) < (n : Int) := by omega
        have hn0 : 0 < n := by omega
        have hn1 : (0 : Int) < (n : Int) := by omega
        clear hbo hx hy hi0 hi1 hi2 hyh hPx hz hmem hkd
        go_wp2_with fail
        cases z with
        | false =>
          refine wp_region_held_drew (S := (fun w' => w'.cell? ⟨b, off + k * 4, none⟩ = some (.int .i64 xb) ∧ w'.cell? ⟨b, off + k * 4 + 1, none⟩ = some (.int .i64 xo) ∧ w'.cell? ⟨b, off + k * 4 + 2, none⟩ = some (.int .i64 xw) ∧ w'.cell? ⟨b, off + k * 4 + 3, none⟩ = some (.bool xs))) (by kernel_rfl) ⟨x0, x1, x2, x3⟩ (fun hSg93q0 => ?_)
          refine rgT 0 ?_
          refine rgT 1 ?_
          refine rgT 2 ?_
          refine rgT 3 ?_
          refine rgC 4 (fun K hK => ?_)
          go_simp
          go_at_call 26
          refine (HVC.out _).mono ?_
          rintro e w5 ⟨rfl, hx5⟩
          have HX5 := hid hx5.drew_left
          clear hx5
          refine hK.out _ _ ⟨HX5.out.cell x0, HX5.out.cell x1, HX5.out.cell x2, HX5.out.cell x3⟩ (fun hSg93q1 => ?_)
          clear hK K
          try simp only [Act.put, List.setIfInBounds_toArray, List.set_cons_zero, List.set_cons_succ]
          refine rgT 5 ?_
          refine rgT 6 ?_
          refine rgU 7 ?_
          refine rgU 8 ?_
          refine rgU 9 ?_
          refine rgU 10 ?_
          refine rgU 11 ?_
          refine rgU 12 ?_
          refine rgU 13 ?_
          refine rgU 14 ?_
          refine rgU 15 ?_
          refine rgU 16 ?_
          refine rgT 17 ?_
          refine wpAnyH_done (by kernel_rfl) ?_ _
          have x0 := HX5.out.cell x0
          have HXA := hid (HE0.out.trans (HX.out.trans HX5.out))
          have HB := hid (HB0.out.ext (HX.out.trans HX5.out))
          have HRV : Hid (R = (Ty.unk, 2)) := hid (by rw [← HRR.out, if_neg (by have := HLN.out; omega), if_neg (by intro h; have h := List.all_eq_true.1 h _ HMEM.out; rw [HPX.out] at h; simp at h; try exact hbb h)])
          clear x0 x1 x2 x3 y0
          have r0 := HB.out.1
          have r1 := HB.out.2.1
          have r2 := HB.out.2.2.1
          have r3 := HB.out.2.2.2.1
          have r4 := HB.out.2.2.2.2.1
          have f0 := HB.out.2.2.2.2.2 0
          have f1 := HB.out.2.2.2.2.2 1
          have f2 := HB.out.2.2.2.2.2 2
          have f3 := HB.out.2.2.2.2.2 3
          have f4 := HB.out.2.2.2.2.2 4
          have hc := set5_cells r0 r1 r2 r3 r4 (.int .i64 0) (.int .i64 0) (.int .i64 0) (.slice none 0 0) (.slice none 0 0)
          have hx := set5_ext HXA.out (Nat.le_refl _) (.int .i64 0) (.int .i64 0) (.int .i64 0) (.slice none 0 0) (.slice none 0 0)
          obtain ⟨W6, hW6⟩ : ∃ W6, ((((w5.setCell ⟨w.heap.size, 0, none⟩ (.int .i64 0)).setCell ⟨w.heap.size, 1, none⟩ (.int .i64 0)).setCell ⟨w.heap.size, 2, none⟩ (.int .i64 0)).setCell ⟨w.heap.size, 3, none⟩ (.slice none 0 0)).setCell ⟨w.heap.size, 4, none⟩ (.slice none 0 0) = W6 := ⟨_, rfl⟩
          rw [hW6] at hc hx
          obtain ⟨t0, t1, t2, t3, t4⟩ := hc
          have HX6 := hid hx
          have HW6 := hid hW6
          clear hx hW6
          go_wp2
          rw [HW6.out]
          clear r0 r1 r2 r3 r4
          refine bodyPost_ret (v := .tuple #[.agg #[.int .i64 0, .int .i64 0, .int .i64 0, .slice none 0 0, .slice none 0 0], .int .i64 2]) (by simp [results, Tryz.results20, go_sem, t0, t1, t2, t3, t4]) rfl ?_
          refine ⟨_, by rw [HRV.out]; rfl, ?_, HX6.out⟩
          rw [HRV.out]
          exact tyV_leaf _ _ _ 0 0 (by unfold i64b; omega) (by unfold i64b; omega)
        | true =>
          by_cases hbb : xb = hb
          · subst hbb
            have g1 : (xb != xb) = false := by simp
            refine wp_region_held_drew (S := (fun w' => w'.cell? ⟨b, off + k * 4, none⟩ = some (.int .i64 xb) ∧ w'.cell? ⟨b, off + k * 4 + 1, none⟩ = some (.int .i64 xo) ∧ w'.cell? ⟨b, off + k * 4 + 2, none⟩ = some (.int .i64 xw) ∧ w'.cell? ⟨b, off + k * 4 + 3, none⟩ = some (.bool xs) ∧ w'.cell? ⟨b, off, none⟩ = some (.int .i64 xb))) (by kernel_rfl) ⟨x0, x1, x2, x3, y0⟩ (fun hSg94q0 => ?_)
            refine rgT 0 ?_
            refine rgT 1 ?_
            refine rgT 2 ?_
            refine rgT 3 ?_
            refine rgC 4 (fun K hK => ?_)
            go_simp
            go_at_call 26
            refine (HVC.out _).mono ?_
            rintro e w5 ⟨rfl, hx5⟩
            have HX5 := hid hx5.drew_left
            clear hx5
            refine hK.out _ _ ⟨HX5.out.cell x0, HX5.out.cell x1, HX5.out.cell x2, HX5.out.cell x3, HX5.out.cell y0⟩ (fun hSg94q1 => ?_)
            clear hK K
            try simp only [Act.put, List.setIfInBounds_toArray, List.set_cons_zero, List.set_cons_succ]
            refine rgT 5 ?_
            refine rgT 6 ?_
            refine rgT 7 ?_
            refine rgT 8 ?_
            refine rgT 9 ?_
            refine rgT 10 ?_
            refine rgT 11 ?_
            refine rgT 12 ?_
            refine rgT 13 ?_
            refine rgT 14 ?_
            refine rgT 15 ?_
            refine rgT 16 ?_
            refine rgT 17 ?_
            refine wpAnyH_done (by kernel_rfl) ?_ _
            have x0 := HX5.out.cell x0
            have x1 := HX5.out.cell x1
            have x2 := HX5.out.cell x2
            have x3 := HX5.out.cell x3
            have HXB := hid (HX.out.trans HX5.out)
            clear y0
            go_wp2_with fail
            refine (HPC.out _).mono ?_
            rintro e w7 ⟨rfl, hx7⟩
            have HX7 := hid (HXB.out.trans hx7)
            have HO7 := hid (HO.out.ext (HX5.out.trans hx7))
            have HKL := hid (show ((l.take k).map partA).length = k by rw [List.length_map, List.length_take]; have := HLN.out; omega)
            clear x0 x1 x2 x3 hx7
            go_wp2_with (first
              | (at_builtin; refine wpList_app1l rfl (.tmp 35) (.tmp 41) 23 rfl W0.heap.size 48 i0 _ 6 80 Tryz.underlying23 HI.out HI0.out HI1.out HI2.out rfl (fdR (tyR 1)) (fdR_size _) (.slice A2 k c2) ((l.take k).map partA) rfl HO7.out w7.heap.size rfl _ rfl (HFR.out _ _) (by have := HKL.out; omega) (by have := HKL.out; omega) (by exact HX7.out.size) ?_; intro A6 c6 w6 hown6 hg6 hloc6; rw [HKL.out] at hown6; have HO6 := hid hown6; have HX6 := hid ((HX7.out.alloc _).grown hg6 (fun q hq => (HO7.out.block q hq).1)); clear hown6 hg6 hloc6; rw [HKL.out])
              | fail)
            first
              | go_roundw
              | refine ⟨?rel, ?measure⟩
            case rel => exact ⟨k + 1, A6, c6, by omega, by go_num, rfl, hid (by rw [all_snocT HXX.out, HAL.out, HPX.out]; simp), hid (by rw [take_snoc' HXX.out, List.map_append]; exact HO6.out), HX6⟩
            case measure => simp [intOf]; omega
          · have g1 : (xb != hb) = true := by simp [hbb]
            refine wp_region_held_drew (S := (fun w' => w'.cell? ⟨b, off + k * 4, none⟩ = some (.int .i64 xb) ∧ w'.cell? ⟨b, off + k * 4 + 1, none⟩ = some (.int .i64 xo) ∧ w'.cell? ⟨b, off + k * 4 + 2, none⟩ = some (.int .i64 xw) ∧ w'.cell? ⟨b, off + k * 4 + 3, none⟩ = some (.bool xs) ∧ w'.cell? ⟨b, off, none⟩ = some (.int .i64 hb))) (by kernel_rfl) ⟨x0, x1, x2, x3, y0⟩ (fun hSg95q0 => ?_)
            refine rgT 0 ?_
            refine rgT 1 ?_
            refine rgT 2 ?_
            refine rgT 3 ?_
            refine rgC 4 (fun K hK => ?_)
            go_simp
            go_at_call 26
            refine (HVC.out _).mono ?_
            rintro e w5 ⟨rfl, hx5⟩
            have HX5 := hid hx5.drew_left
            clear hx5
            refine hK.out _ _ ⟨HX5.out.cell x0, HX5.out.cell x1, HX5.out.cell x2, HX5.out.cell x3, HX5.out.cell y0⟩ (fun hSg95q1 => ?_)
            clear hK K
            try simp only [Act.put, List.setIfInBounds_toArray, List.set_cons_zero, List.set_cons_succ]
            refine rgT 5 ?_
            refine rgT 6 ?_
            refine rgT 7 ?_
            refine rgT 8 ?_
            refine rgT 9 ?_
            refine rgT 10 ?_
            refine rgT 11 ?_
            refine rgT 12 ?_
            refine rgT 13 ?_
            refine rgT 14 ?_
            refine rgT 15 ?_
            refine rgT 16 ?_
            refine rgT 17 ?_
            refine wpAnyH_done (by kernel_rfl) ?_ _
            have x0 := HX5.out.cell x0
            have HXA := hid (HE0.out.trans (HX.out.trans HX5.out))
            have HB := hid (HB0.out.ext (HX.out.trans HX5.out))
            have HRV : Hid (R = (Ty.unk, 2)) := hid (by rw [← HRR.out, if_neg (by have := HLN.out; omega), if_neg (by intro h; have h := List.all_eq_true.1 h _ HMEM.out; rw [HPX.out] at h; simp at h; try exact hbb h)])
            clear x0 x1 x2 x3 y0
            have r0 := HB.out.1
            have r1 := HB.out.2.1
            have r2 := HB.out.2.2.1
            have r3 := HB.out.2.2.2.1
            have r4 := HB.out.2.2.2.2.1
            have f0 := HB.out.2.2.2.2.2 0
            have f1 := HB.out.2.2.2.2.2 1
            have f2 := HB.out.2.2.2.2.2 2
            have f3 := HB.out.2.2.2.2.2 3
            have f4 := HB.out.2.2.2.2.2 4
            have hc := set5_cells r0 r1 r2 r3 r4 (.int .i64 0) (.int .i64 0) (.int .i64 0) (.slice none 0 0) (.slice none 0 0)
            have hx := set5_ext HXA.out (Nat.le_refl _) (.int .i64 0) (.int .i64 0) (.int .i64 0) (.slice none 0 0) (.slice none 0 0)
            obtain ⟨W6, hW6⟩ : ∃ W6, ((((w5.setCell ⟨w.heap.size, 0, none⟩ (.int .i64 0)).setCell ⟨w.heap.size, 1, none⟩ (.int .i64 0)).setCell ⟨w.heap.size, 2, none⟩ (.int .i64 0)).setCell ⟨w.heap.size, 3, none⟩ (.slice none 0 0)).setCell ⟨w.heap.size, 4, none⟩ (.slice none 0 0) = W6 := ⟨_, rfl⟩
            rw [hW6] at hc hx
            obtain ⟨t0, t1, t2, t3, t4⟩ := hc
            have HX6 := hid hx
            have HW6 := hid hW6
            clear hx hW6
            go_wp2
            rw [HW6.out]
            clear r0 r1 r2 r3 r4
            refine bodyPost_ret (v := .tuple #[.agg #[.int .i64 0, .int .i64 0, .int .i64 0, .slice none 0 0, .slice none 0 0], .int .i64 2]) (by simp [results, Tryz.results20, go_sem, t0, t1, t2, t3, t4]) rfl ?_
            refine ⟨_, by rw [HRV.out]; rfl, ?_, HX6.out⟩
            rw [HRV.out]
            exact tyV_leaf _ _ _ 0 0 (by unfold i64b; omega) (by unfold i64b; omega)
      · have hkn : ¬ (k : Int) < (n : Int) := by omega
        obtain rfl : k = n := by omega
        have ho := HO.out
        have hal := HAL.out
        rw [List.take_of_length_le (by have := HLN.out; omega)] at ho hal
        have HRV : Hid (R = arrangeF (l.map partA)) := hid (by rw [← HRR.out, if_neg (by have := HLN.out; omega), if_pos hal])
        have HB := hid (HB0.out.ext HX.out)
        have hsl := ho.slT (S := fun b => w.heap.size < b) (fun b hb => hb) (fun b hb => by
          have h1 := (ho.block b hb).1
          have h2 := HB0.out.lt
          omega)
        have HC := hid (rarrange_any 1 (fun b => w.heap.size < b) wr A2 k c2 (l.map partA) hsl (by omega) (fun f hf => by
          obtain ⟨a, ha, rfl⟩ := List.mem_map.1 hf
          have h := List.all_eq_true.1 hal a ha
          rw [HP.out a, Bool.and_eq_true] at h
          have h2 := valid_iff.1 h.1
          refine ⟨⟨h2.2.1, by show a.off ≤ 131072; omega⟩, ?_⟩
          show bnT (if a.sgn then Ty.int a.width else Ty.uint a.width) = true
          have hw := h2.1
          cases a.sgn <;> rcases hw with hw | hw | hw <;> rw [hw] <;> decide))
        have HXA := hid (HE0.out.trans HX.out)
        obtain ⟨r, hr⟩ : ∃ r, arrangeF (l.map partA) = r := ⟨_, rfl⟩
        rw [hr] at HC HRV
        have HSZ := hid (show w.heap.size ≤ wr.heap.size from (HE0.out.trans HX.out).size)
        clear ho hal hsl hr
        obtain ⟨rt, re⟩ := r
        unfold TyErr at HC
        simp only at HC
        go_wp2_with fail
        refine (HC.out).mono ?_
        rintro e w5 ⟨_, rfl, ⟨A7, n7, c7, B7, m7, e7, rfl, hv7⟩, hx5⟩
        have HXA5 := hid (HXA.out.trans hx5)
        have HB5 := hid (HB.out.ext hx5)
        have hv7' : TyV 4 w5 (fun b => w.heap.size < b ∨ wr.heap.size ≤ b) (.agg #[.int .i64 rt.kind, .int .i64 rt.size, .int .i64 rt.count, .slice A7 n7 c7, .slice B7 m7 e7]) rt := ⟨A7, n7, c7, B7, m7, e7, rfl, hv7⟩
        have HV7 := hid hv7'
        clear hx5 hv7 hv7'
        have r0 := HB5.out.1
        have r1 := HB5.out.2.1
        have r2 := HB5.out.2.2.1
        have r3 := HB5.out.2.2.2.1
        have r4 := HB5.out.2.2.2.2.1
        have f0 := HB5.out.2.2.2.2.2 0
        have f1 := HB5.out.2.2.2.2.2 1
        have f2 := HB5.out.2.2.2.2.2 2
        have f3 := HB5.out.2.2.2.2.2 3
        have f4 := HB5.out.2.2.2.2.2 4
        have hc := set5_cells r0 r1 r2 r3 r4 (.int .i64 rt.kind) (.int .i64 rt.size) (.int .i64 rt.count) (.slice A7 n7 c7) (.slice B7 m7 e7)
        have hx := set5_ext HXA5.out (Nat.le_refl _) (.int .i64 rt.kind) (.int .i64 rt.size) (.int .i64 rt.count) (.slice A7 n7 c7) (.slice B7 m7 e7)
        obtain ⟨W6, hW6⟩ : ∃ W6, ((((w5.setCell ⟨w.heap.size, 0, none⟩ (.int .i64 rt.kind)).setCell ⟨w.heap.size, 1, none⟩ (.int .i64 rt.size)).setCell ⟨w.heap.size, 2, none⟩ (.int .i64 rt.count)).setCell ⟨w.heap.size, 3, none⟩ (.slice A7 n7 c7)).setCell ⟨w.heap.size, 4, none⟩ (.slice B7 m7 e7) = W6 := ⟨_, rfl⟩
        rw [hW6] at hc hx
        obtain ⟨t0, t1, t2, t3, t4⟩ := hc
        have HX6 := hid hx
        have HW6 := hid hW6
        clear hx hW6
        go_wp2
        rw [HW6.out]
        clear r0 r1 r2 r3 r4
        refine bodyPost_ret (v := .tuple #[.agg #[.int .i64 rt.kind, .int .i64 rt.size, .int .i64 rt.count, .slice A7 n7 c7, .slice B7 m7 e7], .int .i64 re]) (by simp [results, Tryz.results20, go_sem, t0, t1, t2, t3, t4]) rfl ?_
        refine ⟨_, by rw [HRV.out], ?_, HX6.out⟩
        rw [HRV.out]
        have hgt : ∀ b, (w.heap.size < b ∨ wr.heap.size ≤ b) → IsCells w5 b → w.heap.size < b := by
          intro b hb _
          have h1 := HX.out.size
          have h2 := HB0.out.lt
          rcases hb with hb | hb
          · exact hb
          · omega
        refine TyV.mono (fun b hb _ => .inr (Nat.le_of_lt hb)) (TyV.keep (fun b hb _ => ?_) (TyV.mono hgt HV7.out))
        have hb' : w.heap.size < b := hb
        rw [← HW6.out]
        exact set5_heap _ _ _ _ _ _ _ (by omega)
end Go.Proofs.YtacmjhcfjhpkeaaGreatDoor
