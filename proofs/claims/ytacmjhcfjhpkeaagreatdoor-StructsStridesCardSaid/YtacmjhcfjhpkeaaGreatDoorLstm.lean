/- The law StructsStrides. -/
import Derived.Test.YtacmjhcfjhpkeaaGreatDoorL34Em
namespace Go.Proofs.YtacmjhcfjhpkeaaGreatDoor
open Go.RowKit Go.Deco
set_option linter.unusedSimpArgs false
set_option linter.unusedVariables false
theorem stride_law (l : List Acc) {N : Int} (h : strideL (asc (offN l)) = (N, true)) : 1 ≤ N ∧ ∀ a ∈ l, ∀ b ∈ l, validA a = true → validA b = true → (a.off - b.off).tmod N = 0 := by
 obtain ⟨h1, h2⟩ := stride_mult (asc_pw _) h
 refine ⟨h1, fun a ha b hb va vb => ?_⟩
 have hm : ∀ x ∈ l, validA x = true → x.off.toNat ∈ asc (offN l) := fun x hx hv => asc_mem.2 (List.mem_map.2 ⟨x, List.mem_filter.2 ⟨hx, hv⟩, rfl⟩)
 obtain ⟨c, hc⟩ := h2 _ (hm a ha va) _ (hm b hb vb)
 have ka := valid_iff.1 va
 have kb := valid_iff.1 vb
 have e : a.off - b.off = c * N := by omega
 rw [e]
 exact Int.mul_tmod_left c N
set_option maxRecDepth 100000 in
set_option maxHeartbeats 4000000 in
theorem strlaw_any (w : World) (ht : Tab10 w) (hg : TabAt w) (A : Option Addr) (n c : Nat) (l : List Acc) (hl : Sl accR w All (.slice A n c) l) : Calls Tryz.prog 8 #[.slice A n c] w (TBool w true) := by
 have HT := hid ht
 have HG := hid hg
 have HL := hid hl
 have HLN := hid hl.len
 clear ht hg hl
 by_cases h0 : (n : Int) > 100
 case pos =>
  have g0 : decide ((n : Int) > 100) = true := decide_eq_true h0
  have HX := hid (lex_any w HT.out HG.out)
  go_enter Tryz.func8, Tryz.ntmps8
  go_wp2_with fail
  refine HX.out.mono ?_
  rintro e w1 ⟨rfl, hx⟩
  have HX1 := hid hx
  clear hx
  go_wp2
  go_ret
  exact ⟨rfl, HX1.out⟩
 have g0 : decide ((n : Int) > 100) = false := decide_eq_false h0
 have hn : n ≤ 100 := by omega
 clear h0
 go_enter Tryz.func8, Tryz.ntmps8
 go_wp2_with fail
 refine (lprog_any w A n c l HL.out (by omega)).mono ?_
 rintro e w1 ⟨A1, c1, rfl, hs, hx⟩
 rw [← HLN.out] at hs ⊢
 have HSw1 := hid hs
 have HXw1 := hid hx
 clear hs hx
 have HC := hid (strides_any w1 A1 n c1 l HSw1.out (by omega))
 unfold StrideIs at HC
 have HCR := hid (fun W (hW : Ext w W) => rstrides_any W A n c l (HL.out.ext hW) (by omega))
 unfold StrideIs at HCR
 have HM := hid (fun N (h : strideL (asc (offN l)) = (N, true)) => stride_law l h)
 obtain ⟨⟨N, b⟩, hR⟩ : ∃ R, strideL (asc (offN l)) = R := ⟨_, rfl⟩
 rw [hR] at HC HCR HM
 clear hR
 simp only at HC HCR
 go_wp2_with fail
 refine HC.out.mono ?_
 rintro e w2 ⟨rfl, hx⟩
 have HX2 := hid (HXw1.out.trans hx)
 clear hx
 go_wp2_with fail
 refine (HCR.out w2 HX2.out).mono ?_
 rintro e w3 ⟨rfl, hx⟩
 have HX3 := hid (HX2.out.trans hx)
 clear hx
 cases b with
 | false =>
  go_wp2_with fail
  go_loopw [8, 7] (fun i fo wr => i = .int .i64 0 ∧ fo = .int .i64 (-1) ∧ Hid (Ext w wr)) (fun i _ _ => 0)
  case atStart => exact ⟨rfl, rfl, hid HX3.out⟩
  case round =>
   obtain ⟨rfl, rfl, HX⟩ := hrel
   by_cases h1 : 0 < n
   ·have hkn : (0 : Int) < (n : Int) := by omega
    have HXLw9 := hid (lex_any wr (HT.out.ext HX.out) (HG.out.ext HX.out))
    go_wp2_with fail
    refine HXLw9.out.mono ?_
    rintro e w9 ⟨rfl, hx⟩
    have HXw9 := hid (Ext.trans HX.out hx)
    clear hx
    go_wp2
    go_ret
    exact ⟨rfl, HXw9.out⟩
   ·have hkn : ¬ (0 : Int) < (n : Int) := by omega
    have HXLw9 := hid (lex_any wr (HT.out.ext HX.out) (HG.out.ext HX.out))
    go_wp2_with fail
    refine HXLw9.out.mono ?_
    rintro e w9 ⟨rfl, hx⟩
    have HXw9 := hid (Ext.trans HX.out hx)
    clear hx
    go_wp2
    go_ret
    exact ⟨rfl, HXw9.out⟩
 | true =>
  obtain ⟨hN1, hM⟩ := HM.out N rfl
  have HMM := hid hM
  have gN : decide (N < 1) = false := decide_eq_false (by omega)
  have gN0 : N ≠ 0 := by omega
  clear hM
  go_wp2_with fail
  go_loopw [8, 7] (fun i fo wr => ∃ (k : Nat) (f : Int), k ≤ n ∧ i = .int .i64 k ∧ fo = .int .i64 f ∧ Hid (f = -1 ∨ ∃ a ∈ l, validA a = true ∧ f = a.off) ∧ Hid (Ext w wr)) (fun i _ _ => n - (intOf i).toNat)
  case atStart => exact ⟨0, -1, by omega, rfl, rfl, hid (.inl rfl), hid HX3.out⟩
  case round =>
   obtain ⟨k, f, hk, rfl, rfl, HF, HX⟩ := hrel
   by_cases h1 : k < n
   ·have hkn : (k : Int) < (n : Int) := by omega
    obtain ⟨x, hx⟩ : ∃ x, l[k]? = some x := ⟨_, List.getElem?_eq_getElem (by have := HLN.out; omega)⟩
    have HXM := hid (List.mem_of_getElem? hx)
    obtain ⟨bk, off, rfl, x0, x1, x2, x3, hi0, hi1, hi2⟩ := (HL.out.ext HX.out).acc_at hx
    have HXC := hid (fun W (hW : Ext wr W) => And.intro (hW.cell x0) (And.intro (hW.cell x1) (And.intro (hW.cell x2) (hW.cell x3))))
    have HVC := hid (fun (w' : World) => isvalid_any w' x)
    unfold accV at HVC
    obtain ⟨z, hz⟩ : ∃ z, validA x = z := ⟨_, rfl⟩
    rw [hz] at HVC
    have HZ := hid hz
    clear hx hz hi0 hi1 hi2
    obtain ⟨xb, xo, xw, xs⟩ := x
    simp only at x0 x1 x2 x3 HVC HXC
    go_wp2_with fail
    refine (HVC.out _).mono ?_
    rintro e w5 ⟨rfl, hx5⟩
    have HX5 := hid hx5
    clear hx5 x0 x1 x2 x3
    obtain ⟨x0, x1, x2, x3⟩ := HXC.out w5 HX5.out
    cases z with
    | false =>
     go_wp2_with fail
     refine (HVC.out _).mono ?_
     rintro e w6 ⟨rfl, hx6⟩
     have HX6 := hid (HX.out.trans (HX5.out.trans hx6))
     clear hx6 x0 x1 x2 x3
     go_wp2
     first
      | go_roundw
      | refine ⟨?rel, ?measure⟩
     case rel => exact ⟨k + 1, f, by omega, by go_num, rfl, HF, HX6⟩
     case measure => simp [intOf]; omega
    | true =>
     have hvx := valid_iff.1 HZ.out
     simp only at hvx
     by_cases h2 : f < 0
     ·have g2 : decide (f < 0) = true := decide_eq_true h2
      have hw : IntKind.i64.wrap (xo - xo) = xo - xo := IntWalk.i64_in _ (by omega)
      have ht : Int.tmod (xo - xo) N = 0 := by rw [Int.sub_self]; exact Int.zero_tmod N
      go_wp2_with fail
      refine (HVC.out _).mono ?_
      rintro e w6 ⟨rfl, hx6⟩
      have HX6 := hid (HX.out.trans (HX5.out.trans hx6))
      have HX56 := hid (HX5.out.trans hx6)
      clear hx6 x0 x1 x2 x3
      obtain ⟨x0, x1, x2, x3⟩ := HXC.out w6 HX56.out
      go_wp2
      first
       | go_roundw
       | refine ⟨?rel, ?measure⟩
      case rel => exact ⟨k + 1, xo, by omega, by go_num, rfl, hid (.inr ⟨_, HXM.out, HZ.out, rfl⟩), HX6⟩
      case measure => simp [intOf]; omega
     ·have g2 : decide (f < 0) = false := decide_eq_false h2
      have hb : (xo - f).tmod N = 0 ∧ 0 ≤ f ∧ f ≤ 65532 := by
       rcases HF.out with e | ⟨a, ha, hv, e⟩
       ·omega
       ·have h3 := HMM.out _ HXM.out a ha HZ.out hv
        have h4 := valid_iff.1 hv
        rw [e]
        exact ⟨h3, h4.2.1, h4.2.2⟩
      obtain ⟨ht, hb1, hb2⟩ := hb
      have hw : IntKind.i64.wrap (xo - f) = xo - f := IntWalk.i64_in _ (by omega)
      go_wp2_with fail
      refine (HVC.out _).mono ?_
      rintro e w6 ⟨rfl, hx6⟩
      have HX6 := hid (HX.out.trans (HX5.out.trans hx6))
      have HX56 := hid (HX5.out.trans hx6)
      clear hx6 x0 x1 x2 x3
      obtain ⟨x0, x1, x2, x3⟩ := HXC.out w6 HX56.out
      go_wp2
      first
       | go_roundw
       | refine ⟨?rel, ?measure⟩
      case rel => exact ⟨k + 1, f, by omega, by go_num, rfl, HF, HX6⟩
      case measure => simp [intOf]; omega
   ·have hkn : ¬ (k : Int) < (n : Int) := by omega
    have HXLw9 := hid (lex_any wr (HT.out.ext HX.out) (HG.out.ext HX.out))
    go_wp2_with fail
    refine HXLw9.out.mono ?_
    rintro e w9 ⟨rfl, hx⟩
    have HXw9 := hid (Ext.trans HX.out hx)
    clear hx
    go_wp2
    go_ret
    exact ⟨rfl, HXw9.out⟩
end Go.Proofs.YtacmjhcfjhpkeaaGreatDoor
