/- The law StructsCover. -/
import Derived.Test.YtacmjhcfjhpkeaaGreatDoorL34Em
import Derived.Test.YtacmjhcfjhpkeaaGreatDoorStQm
import Derived.Test.YtacmjhcfjhpkeaaGreatDoorFatm
namespace Go.Proofs.YtacmjhcfjhpkeaaGreatDoor
open Go.RowKit Go.Deco
set_option linter.unusedSimpArgs false
set_option linter.unusedVariables false
/-- What is asked of an access, with the conflicts' count. -/
theorem cover_cases {l : List Acc} {t : Ty} (h : layoutA l = (t, 0)) {a : Acc} (ha : a ∈ l) :
  validA a = true ∧ ((hitsA l a = 1 ∧ ∀ n : Int, 0 ≤ n → n < a.width → fieldT t (a.off + n) 1 = some (Ty.uint 1)) ∨
   (hitsA l a = 0 ∧ ∃ x, fieldT t a.off a.width = some x ∧ x.size = a.width ∧ (x.kind = 1 ∨ (a.sgn = false ∧ x.kind = 2)))) :=
 ⟨(layout_ok h).1 a ha, cover_law h ha⟩
theorem putK {a w : World} {lo aZ : Nat} (h : Ext a w) (hz : ZTy lo aZ w) (hlo : a.heap.size ≤ lo) (v0 v1 v2 v3 v4 : Value) :
  ∃ W, ((((w.setCell ⟨aZ, 0, none⟩ v0).setCell ⟨aZ, 1, none⟩ v1).setCell ⟨aZ, 2, none⟩ v2).setCell ⟨aZ, 3, none⟩ v3).setCell ⟨aZ, 4, none⟩ v4 = W ∧ Ext a W ∧
   (W.cell? ⟨aZ, 0, none⟩ = some v0 ∧ W.cell? ⟨aZ, 1, none⟩ = some v1 ∧ W.cell? ⟨aZ, 2, none⟩ = some v2 ∧ W.cell? ⟨aZ, 3, none⟩ = some v3 ∧ W.cell? ⟨aZ, 4, none⟩ = some v4) := by
 have hge := hz.ge
 exact ⟨_, rfl, set5_ext h (b := aZ) (by omega) _ _ _ _ _, set5_cells hz.bx.1 hz.bx.2.1 hz.bx.2.2.1 hz.bx.2.2.2.1 hz.bx.2.2.2.2.1 _ _ _ _ _⟩
set_option maxRecDepth 100000 in
set_option maxHeartbeats 8000000 in
theorem covlaw_any (w : World) (ht : Tab10 w) (hg : TabAt w) (A : Option Addr) (n c : Nat) (l : List Acc) (hl : Sl accR w All (.slice A n c) l) : Calls Tryz.prog 4 #[.slice A n c] w (TBool w true) := by
 have HT := hid ht
 have HG := hid hg
 have HL := hid hl
 have HLN := hid hl.len
 clear ht hg hl
 by_cases h0 : (n : Int) > 40
 case pos =>
  have g0 : decide ((n : Int) > 40) = true := decide_eq_true h0
  have HX := hid (lex_any w HT.out HG.out)
  go_enter Tryz.func4, Tryz.ntmps4
  go_wp2_with fail
  refine HX.out.mono ?_
  rintro e w1 ⟨rfl, hx⟩
  have HX1 := hid hx
  clear hx
  go_wp2
  go_ret
  exact ⟨rfl, HX1.out⟩
 have g0 : decide ((n : Int) > 40) = false := decide_eq_false h0
 have hn : n ≤ 40 := by omega
 clear h0
 go_enter Tryz.func4, Tryz.ntmps4
 go_wp2_with fail
 refine (lprog_any w A n c l HL.out (by omega)).mono ?_
 rintro e w1 ⟨A1, c1, rfl, hs, hx⟩
 rw [← HLN.out] at hs ⊢
 have HSw1 := hid hs
 have HXw1 := hid hx
 clear hs hx
 have HC := hid (layout_any w1 A1 n c1 l HSw1.out)
 have HP := hid (fun t (h : layoutA l = (t, 0)) a (ha : a ∈ l) => cover_cases h ha)
 have HER := hid (layout_err l)
 obtain ⟨⟨t, er⟩, hR⟩ : ∃ R, layoutA l = R := ⟨_, rfl⟩
 rw [hR] at HC HP HER
 clear hR
 go_wp2_with fail
 refine HC.out.mono ?_
 rintro e w2 ⟨vw2, rfl, hv, hx⟩
 have HTw2 := hid (TyV.all (t := t) hv)
 have HXw2 := hid hx
 clear hv hx
 obtain ⟨Aw2, nw2, cw2, Bw2, mw2, ew2, hv, -⟩ := HTw2.out
 subst hv
 simp only at *
 go_upto_region 5 with fail
 obtain ⟨U2, hU2⟩ : ∃ U2, w2.alloc (.cells #[.int .i64 t.kind, .int .i64 t.size, .int .i64 t.count, .slice Aw2 nw2 cw2, .slice Bw2 mw2 ew2] 25) = U2 := ⟨_, rfl⟩
 rw [hU2]
 have HEU2 := hid (by rw [← hU2]; exact (Ext.refl w2).alloc _ : Ext w2 U2)
 have o0U2 : U2.cell? ⟨w2.heap.size, 0, none⟩ = some (.int .i64 t.kind) := by rw [← hU2]; simp [go_sem]
 have o1U2 : U2.cell? ⟨w2.heap.size, 1, none⟩ = some (.int .i64 t.size) := by rw [← hU2]; simp [go_sem]
 have o2U2 : U2.cell? ⟨w2.heap.size, 2, none⟩ = some (.int .i64 t.count) := by rw [← hU2]; simp [go_sem]
 have o3U2 : U2.cell? ⟨w2.heap.size, 3, none⟩ = some (.slice Aw2 nw2 cw2) := by rw [← hU2]; simp [go_sem]
 have o4U2 : U2.cell? ⟨w2.heap.size, 4, none⟩ = some (.slice Bw2 mw2 ew2) := by rw [← hU2]; simp [go_sem]
 have HOU2 := hid (fun W (hW : Ext U2 W) => And.intro (hW.cell o0U2) (And.intro (hW.cell o1U2) (And.intro (hW.cell o2U2) (And.intro (hW.cell o3U2) (hW.cell o4U2)))))
 clear hU2 o0U2 o1U2 o2U2 o3U2 o4U2
 have HX2 := hid (HXw1.out.trans (HXw2.out.trans HEU2.out))
 by_cases k1 : er = 0
 case neg =>
  rcases HER.out with h | rfl | rfl
  case inl => exact absurd h k1
  case inr.inl =>
   have HXLw9 := hid (lex_any U2 (HT.out.ext HX2.out) (HG.out.ext HX2.out))
   go_wp2_with fail
   refine HXLw9.out.mono ?_
   rintro e w9 ⟨rfl, hx⟩
   have HXw9 := hid (Ext.trans HX2.out hx)
   clear hx
   go_wp2
   go_ret
   exact ⟨rfl, HXw9.out⟩
  case inr.inr =>
   have HXLw9 := hid (lex_any U2 (HT.out.ext HX2.out) (HG.out.ext HX2.out))
   go_wp2_with fail
   refine HXLw9.out.mono ?_
   rintro e w9 ⟨rfl, hx⟩
   have HXw9 := hid (Ext.trans HX2.out hx)
   clear hx
   go_wp2
   go_ret
   exact ⟨rfl, HXw9.out⟩
 subst k1
 have HCC := hid (sconfl_any U2 A1 n c1 l (HSw1.out.ext (HXw2.out.trans HEU2.out)) (by omega))
 unfold ConfIs at HCC
 have HCT := hid (HP.out t rfl)
 clear HP HC HER
 go_wp2_with fail
 refine HCC.out.mono ?_
 rintro e w3 ⟨A3, c3, rfl, hs3, hx3⟩
 have HS3 := hid hs3
 have HX3 := hid hx3
 have HCN := hid hs3.len
 have hCNcap := hs3.cap
 have HLS0 := hid (conflFrom_zero l)
 obtain ⟨L, hL⟩ : ∃ L, conflA l = L := ⟨_, rfl⟩
 obtain ⟨M, hM⟩ : ∃ M, L.length = M := ⟨_, rfl⟩
 have HLM := hid hM
 have HLL := hid hL
 rw [hL] at HS3 HCN HLS0 hCNcap ⊢
 rw [hM] at HS3 HCN hCNcap ⊢
 clear hs3 hx3 hM hL
 go_wp2
 go_loopw [8, 7] (fun i k wr => ∃ (I K : Nat), I ≤ n ∧ K ≤ M ∧ i = .int .i64 I ∧ k = .int .i64 K ∧ Hid (L.drop K = conflFrom l I) ∧ Hid (Ext w3 wr)) (fun i _ _ => n - (intOf i).toNat)
 case atStart => exact ⟨0, 0, by omega, by omega, rfl, rfl, hid (by rw [HLS0.out, List.drop_zero]), hid (Ext.refl _)⟩
 case round =>
  obtain ⟨I, K, hI, hK, rfl, rfl, HD, HX⟩ := hrel
  have hV : ∃ V, V = wr := ⟨_, rfl⟩
  obtain ⟨V, rfl⟩ := hV
  by_cases h1 : I < n
  case neg =>
   have hI1 : ¬ (I : Int) < (n : Int) := by omega
   have hKM : K = M := by
    have h2 := HD.out
    rw [conflFrom_end l (by have := HLN.out; omega)] at h2
    have h3 := congrArg List.length h2
    simp at h3
    have := HLM.out
    omega
   subst hKM
   have HXLw9 := hid (lex_any V (HT.out.ext (HX2.out.trans (HX3.out.trans HX.out))) (HG.out.ext (HX2.out.trans (HX3.out.trans HX.out))))
   go_wp2_with fail
   refine HXLw9.out.mono ?_
   rintro e w9 ⟨rfl, hx⟩
   have HXw9 := hid (Ext.trans (HX2.out.trans (HX3.out.trans HX.out)) hx)
   clear hx
   go_wp2
   go_ret
   exact ⟨rfl, HXw9.out⟩
  have hI1 : (I : Int) < (n : Int) := by omega
  obtain ⟨a, ha⟩ : ∃ a, l[I]? = some a := ⟨_, List.getElem?_eq_getElem (by have := HLN.out; omega)⟩
  obtain ⟨hva, hcase⟩ := HCT.out a (List.mem_of_getElem? ha)
  have hst := confl_step ha hva (k := K) (by rw [HLL.out]; exact HD.out)
  rw [HLL.out] at hst
  have hvv := valid_iff.1 hva
  obtain ⟨b, of, rfl, y0, y1, y2, y3, hi0, hi1, hi2⟩ := (HL.out.ext (HX2.out.trans (HX3.out.trans HX.out))).acc_at ha
  obtain ⟨o0, o1, o2, o3, o4⟩ := HOU2.out V (HX3.out.trans HX.out)
  have HTV := hid ((HTw2.out.ext HEU2.out).ext (HX3.out.trans HX.out))
  have HEA := hid (HX2.out.trans (HX3.out.trans HX.out))
  have HAI := hid (And.intro hi0 (And.intro hi1 hi2))
  obtain ⟨ab, ao, aw, sg⟩ := a
  simp only at y0 y1 y2 y3 hcase hvv hst HAI
  have HSC := hid (fun W (hW : Ext V W) => And.intro (And.intro (hW.cell o0) (And.intro (hW.cell o1) (And.intro (hW.cell o2) (And.intro (hW.cell o3) (hW.cell o4))))) (And.intro (hW.cell y0) (And.intro (hW.cell y1) (And.intro (hW.cell y2) (hW.cell y3)))))
  have HAM := hid ha
  obtain ⟨hst1, hst2⟩ := hst
  have HST1 := hid hst1
  have HST2 := hid hst2
  clear ha hva hst1 hst2 o0 o1 o2 o3 o4 hi0 hi1 hi2
  rcases hcase with ⟨hh, hfa⟩ | ⟨hh, x, hfx, hxs, hxk⟩
  case inl =>
   obtain ⟨hLK, hDN⟩ := HST1.out hh
   have HDN := hid hDN
   have HFA := hid hfa
   obtain ⟨b3, of3, rfl, z0, hz0⟩ := (HS3.out.ext HX.out).num_at hLK
   have hKM : K < M := by rw [← HLM.out]; exact (List.getElem?_eq_some_iff.1 hLK).1
   have hKM1 : (K : Int) < (M : Int) := by omega
   clear hLK hDN hfa hh y0 y1 y2 y3
   go_wp2_with fail
   clear z0
   go_loopw [9] (fun j wr => ∃ (N : Nat), (N : Int) ≤ aw ∧ j = .int .i64 N ∧ Hid (Ext V wr)) (fun j _ => (aw - intOf j).toNat)
   case atStart => exact ⟨0, by omega, rfl, hid (Ext.refl _)⟩
   case round =>
    obtain ⟨N, hN, rfl, HQ⟩ := hrel
    obtain ⟨⟨o0, o1, o2, o3, o4⟩, y0, y1, y2, y3⟩ := HSC.out wr HQ.out
    by_cases h2 : (N : Int) < aw
    case neg =>
     have HEQ := hid (HX.out.trans HQ.out)
     clear y0 y1 y3 o0 o1 o2 o3 o4
     go_wp2
     first
      | go_roundw
      | refine ⟨?rel, ?measure⟩
     case rel => exact ⟨I + 1, K + 1, by omega, by omega, by go_num, by go_num, HDN, HEQ⟩
     case measure => simp [intOf]; omega
    have HSQ := hid (fun W (hW : Ext wr W) => HSC.out W (HQ.out.trans hW))
    have hw1 : IntKind.i64.wrap (ao + (N : Int)) = ao + (N : Int) := IntWalk.i64_in _ (by omega)
    have HFC := hid (fun W (hW : Ext wr W) => fieldat_any 4 W t _ (ao + (N : Int)) 1 ((HTV.out.ext HQ.out).ext hW) (by unfold i64b; omega))
    rw [HFA.out (N : Int) (by omega) h2] at HFC
    have hku : (Ty.uint 1).kind = 2 := rfl
    have hsu : (Ty.uint 1).size = 1 := rfl
    have HEQ := hid HQ.out
    go_wp2_with fail
    have HXg108q_0 := hid ((Ext.refl wr).drew)
    refine wp_region_held_drew (S := (fun w' => (w'.cell? ⟨w2.heap.size, 0, none⟩ = some (.int .i64 t.kind) ∧ w'.cell? ⟨w2.heap.size, 1, none⟩ = some (.int .i64 t.size) ∧ w'.cell? ⟨w2.heap.size, 2, none⟩ = some (.int .i64 t.count) ∧ w'.cell? ⟨w2.heap.size, 3, none⟩ = some (.slice Aw2 nw2 cw2) ∧ w'.cell? ⟨w2.heap.size, 4, none⟩ = some (.slice Bw2 mw2 ew2)) ∧ w'.cell? ⟨b, of + I * 4, none⟩ = some (.int .i64 ab) ∧ w'.cell? ⟨b, of + I * 4 + 1, none⟩ = some (.int .i64 ao) ∧ w'.cell? ⟨b, of + I * 4 + 2, none⟩ = some (.int .i64 aw) ∧ w'.cell? ⟨b, of + I * 4 + 3, none⟩ = some (.bool sg))) (by kernel_rfl) (HSQ.out _ (Ext.refl _).drew) (fun hSg108q0 => ?_)
    refine rgT6 0 1 2 3 4 5 ?_
    refine rgT2 6 7 ?_
    refine wpAnyH_ready (rs := [8, 12]) (by kernel_rfl) (by simp) ?_
    refine (AllReadyH.consL rfl (fun K hK => ?g108qb8x9) (AllReadyH.consL rfl (fun K hK => ?g108qb12x9) AllReadyH.nil))
    case' g108qb8x9 =>
     go_simp
     go_at_call 19
     refine (HFC.out _ HXg108q_0.out).mono ?_
     rintro e w5 ⟨v5, b5, x5, rfl, hv5, hEg108q1, ho5⟩
     obtain ⟨rfl, rfl⟩ : b5 = true ∧ x5 = Ty.uint 1 := by rcases ho5 with ⟨h1, h2⟩ | ⟨_, h2⟩; (exact ⟨h1, (Option.some.inj h2).symm⟩); cases h2
     obtain ⟨A5, n5, c5, B5, m5, e5, rfl, -⟩ := hv5
     clear ho5
     have HXg108q_1 := hid (HXg108q_0.out.trans hEg108q1)
     clear hEg108q1
     refine rgK hK (HSQ.out _ HXg108q_1.out) (fun hSg108q1 => ?_)
     clear hK K
     refine rgT3 9 10 11 ?_
     refine wpAnyH_ready (rs := [12]) (by kernel_rfl) (by simp) ?_
     refine (AllReadyH.consL rfl (fun K hK => ?g108qb12x13) AllReadyH.nil)
     case' g108qb12x13 =>
      go_simp
      obtain ⟨wL, aZ, hA1, hsz, hEg108q2, hge, hob⟩ := extAllocT HXg108q_1.out
      refine Eq.mpr (congrArg (K _) hA1) ?_
      first | rw [hsz] | (have hq : wr.heap.size = aZ := hsz; rw [hq]; clear hq) | skip
      have HZB := hid (show ZTy wr.heap.size aZ wL from ⟨hob, hge⟩)
      clear hA1 hsz hge hob
      have HXg108q_2 := hid (HXg108q_1.out.trans hEg108q2)
      clear hEg108q2
      refine rgK hK (HSQ.out _ HXg108q_2.out) (fun hSg108q2 => ?_)
      clear hK K
      refine wpAnyH_ready (rs := [13]) (by kernel_rfl) (by simp) ?_
      refine (AllReadyH.consL rfl (fun K hK => ?g108qb13x14) AllReadyH.nil)
      case' g108qb13x14 =>
       have HXend := HXg108q_2
       have y0 := HZB.out.bx.1
       have y1 := HZB.out.bx.2.1
       have y2 := HZB.out.bx.2.2.1
       have y3 := HZB.out.bx.2.2.2.1
       have y4 := HZB.out.bx.2.2.2.2.1
       have yf0 := HZB.out.bx.2.2.2.2.2 0
       have yf1 := HZB.out.bx.2.2.2.2.2 1
       have yf2 := HZB.out.bx.2.2.2.2.2 2
       have yf3 := HZB.out.bx.2.2.2.2.2 3
       have yf4 := HZB.out.bx.2.2.2.2.2 4
       go_simp
       have HXg108q_3 := HXg108q_2
       clear y0 y1 y2 y3 y4 yf0 yf1 yf2 yf3 yf4
       refine rgK hK (HSQ.out _ (set5_ext (b := aZ) HXg108q_2.out HZB.out.ge _ _ _ _ _)) (fun hSg108q3 => ?_)
       clear hK K
       refine rgT 14 ?_
       refine wpAnyH_done (by kernel_rfl) ?_ _
       obtain ⟨W7, hW7, hE7, ⟨t0, t1, t2, t3, t4⟩⟩ := putK HXend.out HZB.out (Nat.le_refl _) (.int .i64 2) (.int .i64 1) (.int .i64 (Ty.uint 1).count) (.slice A5 n5 c5) (.slice B5 m5 e5)
       rw [hW7]
       have HE7 := hid hE7
       clear hW7 hE7 o0 o1 o2 o3 o4 y0 y1 y2 y3 hku hsu
       go_wp2
       first
        | go_roundw
        | refine ⟨?rel, ?measure⟩
       case rel => exact ⟨N + 1, by omega, by go_num, hid (HEQ.out.trans HE7.out)⟩
       case measure => simp [intOf]; omega
    case' g108qb12x9 =>
     go_simp
     obtain ⟨wL, aZ, hA1, hsz, hEg108q1, hge, hob⟩ := extAllocT HXg108q_0.out
     refine Eq.mpr (congrArg (K _) hA1) ?_
     first | rw [hsz] | (have hq : wr.heap.size = aZ := hsz; rw [hq]; clear hq) | skip
     have HZB := hid (show ZTy wr.heap.size aZ wL from ⟨hob, hge⟩)
     clear hA1 hsz hge hob
     have HXg108q_1 := hid (HXg108q_0.out.trans hEg108q1)
     clear hEg108q1
     refine rgK hK (HSQ.out _ HXg108q_1.out) (fun hSg108q1 => ?_)
     clear hK K
     refine wpAnyH_ready (rs := [8]) (by kernel_rfl) (by simp) ?_
     refine (AllReadyH.consL rfl (fun K hK => ?g108qb8x16) AllReadyH.nil)
     case' g108qb8x16 =>
      go_simp
      go_at_call 19
      refine (HFC.out _ HXg108q_1.out).mono ?_
      rintro e w5 ⟨v5, b5, x5, rfl, hv5, hEg108q2, ho5⟩
      obtain ⟨rfl, rfl⟩ : b5 = true ∧ x5 = Ty.uint 1 := by rcases ho5 with ⟨h1, h2⟩ | ⟨_, h2⟩; (exact ⟨h1, (Option.some.inj h2).symm⟩); cases h2
      obtain ⟨A5, n5, c5, B5, m5, e5, rfl, -⟩ := hv5
      clear ho5
      have HXg108q_2 := hid (HXg108q_1.out.trans hEg108q2)
      have HZB := hid (HZB.out.ext hEg108q2)
      clear hEg108q2
      refine rgK hK (HSQ.out _ HXg108q_2.out) (fun hSg108q2 => ?_)
      clear hK K
      refine rgT3 9 10 11 ?_
      refine wpAnyH_ready (rs := [13]) (by kernel_rfl) (by simp) ?_
      refine (AllReadyH.consL rfl (fun K hK => ?g108qb13x20) AllReadyH.nil)
      case' g108qb13x20 =>
       have HXend := HXg108q_2
       have y0 := HZB.out.bx.1
       have y1 := HZB.out.bx.2.1
       have y2 := HZB.out.bx.2.2.1
       have y3 := HZB.out.bx.2.2.2.1
       have y4 := HZB.out.bx.2.2.2.2.1
       have yf0 := HZB.out.bx.2.2.2.2.2 0
       have yf1 := HZB.out.bx.2.2.2.2.2 1
       have yf2 := HZB.out.bx.2.2.2.2.2 2
       have yf3 := HZB.out.bx.2.2.2.2.2 3
       have yf4 := HZB.out.bx.2.2.2.2.2 4
       go_simp
       have HXg108q_3 := HXg108q_2
       clear y0 y1 y2 y3 y4 yf0 yf1 yf2 yf3 yf4
       refine rgK hK (HSQ.out _ (set5_ext (b := aZ) HXg108q_2.out HZB.out.ge _ _ _ _ _)) (fun hSg108q3 => ?_)
       clear hK K
       refine rgT 14 ?_
       refine wpAnyH_done (by kernel_rfl) ?_ _
       obtain ⟨W7, hW7, hE7, ⟨t0, t1, t2, t3, t4⟩⟩ := putK HXend.out HZB.out (Nat.le_refl _) (.int .i64 2) (.int .i64 1) (.int .i64 (Ty.uint 1).count) (.slice A5 n5 c5) (.slice B5 m5 e5)
       rw [hW7]
       have HE7 := hid hE7
       clear hW7 hE7 o0 o1 o2 o3 o4 y0 y1 y2 y3 hku hsu
       go_wp2
       first
        | go_roundw
        | refine ⟨?rel, ?measure⟩
       case rel => exact ⟨N + 1, by omega, by go_num, hid (HEQ.out.trans HE7.out)⟩
       case measure => simp [intOf]; omega
  case inr =>
   obtain ⟨hne, hDN⟩ := HST2.out hh
   have HDN := hid hDN
   have HNE := hid hne
   have HFC := hid (fun W (hW : Ext V W) => fieldat_any 4 W t _ ao aw (HTV.out.ext hW) (by unfold i64b; omega))
   rw [hfx] at HFC
   have HXK := hid hxk
   have HXS := hid hxs
   clear hDN hne hfx hh hxk hxs
   obtain ⟨⟨o0, o1, o2, o3, o4⟩, -, -, -, -⟩ := HSC.out V (Ext.refl _)
   by_cases h2 : K < M
   case pos =>
    have hKM1 : (K : Int) < (M : Int) := by omega
    obtain ⟨q, hq⟩ : ∃ q, L[K]? = some q := ⟨_, List.getElem?_eq_getElem (by have := HLM.out; omega)⟩
    obtain ⟨b3, of3, rfl, z0, hz0⟩ := (HS3.out.ext HX.out).num_at hq
    have hqi := HNE.out q hq
    have g7 : ((q : Int) == (I : Int)) = false := by simp; omega
    clear hq hqi
    have HSQ := hid (fun W (hW : Ext V W) => HSC.out W hW)
    go_upto_region 20 with fail
    go_cut [12, 13] from 91 to 106 (fun s12 s13 wx => ∃ (aZ : Nat), s12 = .pointer (some ⟨aZ, 0, none⟩) ∧ s13 = .bool true ∧ Hid (Ext V wx) ∧ Hid (wx.cell? ⟨aZ, 0, none⟩ = some (.int .i64 x.kind) ∧ wx.cell? ⟨aZ, 1, none⟩ = some (.int .i64 x.size)))
    case rest =>
     obtain ⟨aZ, rfl, rfl, HE7, HC7⟩ := hcut
     obtain ⟨W7, hW7⟩ : ∃ W7, W7 = wc := ⟨_, rfl⟩
     obtain rfl := hW7
     obtain ⟨t0, t1⟩ := HC7.out
     clear o0 o1 o2 o3 o4
     obtain ⟨⟨o0, o1, o2, o3, o4⟩, y0, y1, y2, y3⟩ := HSC.out W7 HE7.out
     clear o0 o1 o2 o3 o4 y0 y1
     have g10 : (x.size != aw) = false := by rw [HXS.out]; simp
     rcases HXK.out with hk1 | ⟨hsg, hk2⟩
     case inl =>
      have g11 : (x.kind != 1) = false := by rw [hk1]; rfl
      clear hk1
      go_upto_region 21 with fail
      refine wp_region_held_drew (S := (fun w' => w'.cell? ⟨aZ, 0, none⟩ = some (.int .i64 x.kind) ∧ w'.cell? ⟨aZ, 1, none⟩ = some (.int .i64 x.size) ∧ w'.cell? ⟨b, of + I * 4 + 2, none⟩ = some (.int .i64 aw) ∧ w'.cell? ⟨b, of + I * 4 + 3, none⟩ = some (.bool sg))) (by kernel_rfl) ⟨t0, t1, y2, y3⟩ (fun hSg109q0 => ?_)
      refine rgT6 0 1 2 3 4 5 ?_
      refine rgT6 6 7 8 9 10 11 ?_
      refine rgT4 12 13 14 15 ?_
      refine rgT 16 ?_
      refine rgU4 17 18 19 20 ?_
      refine rgU4 21 22 23 24 ?_
      refine rgU2 25 26 ?_
      refine rgT2 27 28 ?_
      refine wpAnyH_done (by kernel_rfl) ?_ _
      go_wp2
      first
       | go_roundw
       | refine ⟨?rel, ?measure⟩
      case rel => exact ⟨I + 1, K, by omega, by omega, by go_num, rfl, HDN, hid (HX.out.trans HE7.out.drew)⟩
      case measure => simp [intOf]; omega
     case inr =>
      have g11 : (x.kind != 1) = true := by rw [hk2]; rfl
      have g12 : (x.kind != 2) = false := by rw [hk2]; rfl
      clear hk2
      go_upto_region 21 with fail
      refine wp_region_held_drew (S := (fun w' => w'.cell? ⟨aZ, 0, none⟩ = some (.int .i64 x.kind) ∧ w'.cell? ⟨aZ, 1, none⟩ = some (.int .i64 x.size) ∧ w'.cell? ⟨b, of + I * 4 + 2, none⟩ = some (.int .i64 aw) ∧ w'.cell? ⟨b, of + I * 4 + 3, none⟩ = some (.bool sg))) (by kernel_rfl) ⟨t0, t1, y2, y3⟩ (fun hSg110q0 => ?_)
      refine rgT6 0 1 2 3 4 5 ?_
      refine rgT6 6 7 8 9 10 11 ?_
      refine rgT6 12 13 14 15 16 17 ?_
      refine rgT6 18 19 20 21 22 23 ?_
      refine rgT4 24 25 26 27 ?_
      refine rgT 28 ?_
      refine wpAnyH_done (by kernel_rfl) ?_ _
      go_wp2
      first
       | go_roundw
       | refine ⟨?rel, ?measure⟩
      case rel => exact ⟨I + 1, K, by omega, by omega, by go_num, rfl, HDN, hid (HX.out.trans HE7.out.drew)⟩
      case measure => simp [intOf]; omega
    have HXg111q_0 := hid ((Ext.refl V).drew)
    refine wp_region_held_drew (S := (fun w' => (w'.cell? ⟨w2.heap.size, 0, none⟩ = some (.int .i64 t.kind) ∧ w'.cell? ⟨w2.heap.size, 1, none⟩ = some (.int .i64 t.size) ∧ w'.cell? ⟨w2.heap.size, 2, none⟩ = some (.int .i64 t.count) ∧ w'.cell? ⟨w2.heap.size, 3, none⟩ = some (.slice Aw2 nw2 cw2) ∧ w'.cell? ⟨w2.heap.size, 4, none⟩ = some (.slice Bw2 mw2 ew2)) ∧ w'.cell? ⟨b, of + I * 4, none⟩ = some (.int .i64 ab) ∧ w'.cell? ⟨b, of + I * 4 + 1, none⟩ = some (.int .i64 ao) ∧ w'.cell? ⟨b, of + I * 4 + 2, none⟩ = some (.int .i64 aw) ∧ w'.cell? ⟨b, of + I * 4 + 3, none⟩ = some (.bool sg))) (by kernel_rfl) (HSQ.out _ (Ext.refl _).drew) (fun hSg111q0 => ?_)
    refine rgT6 0 1 2 3 4 5 ?_
    refine rgT4 6 7 8 9 ?_
    refine rgT 10 ?_
    refine wpAnyH_ready (rs := [11, 15]) (by kernel_rfl) (by simp) ?_
    refine (AllReadyH.consL rfl (fun K hK => ?g111qb11x12) (AllReadyH.consL rfl (fun K hK => ?g111qb15x12) AllReadyH.nil))
    case' g111qb11x12 =>
     go_simp
     go_at_call 19
     refine (HFC.out _ HXg111q_0.out).mono ?_
     rintro e w5 ⟨v5, b5, x5, rfl, hv5, hEg111q1, ho5⟩
     obtain ⟨rfl, rfl⟩ : b5 = true ∧ x = x5 := by rcases ho5 with ⟨h1, h2⟩ | ⟨_, h2⟩; (exact ⟨h1, Option.some.inj h2⟩); cases h2
     obtain ⟨A5, n5, c5, B5, m5, e5, rfl, -⟩ := hv5
     clear ho5
     have HXg111q_1 := hid (HXg111q_0.out.trans hEg111q1)
     clear hEg111q1
     refine rgK hK (HSQ.out _ HXg111q_1.out) (fun hSg111q1 => ?_)
     clear hK K
     refine rgT3 12 13 14 ?_
     refine wpAnyH_ready (rs := [15]) (by kernel_rfl) (by simp) ?_
     refine (AllReadyH.consL rfl (fun K hK => ?g111qb15x16) AllReadyH.nil)
     case' g111qb15x16 =>
      go_simp
      obtain ⟨wL, aZ, hA1, hsz, hEg111q2, hge, hob⟩ := extAllocT HXg111q_1.out
      refine Eq.mpr (congrArg (K _) hA1) ?_
      first | rw [hsz] | (have hq : V.heap.size = aZ := hsz; rw [hq]; clear hq) | skip
      have HZB := hid (show ZTy V.heap.size aZ wL from ⟨hob, hge⟩)
      clear hA1 hsz hge hob
      have HXg111q_2 := hid (HXg111q_1.out.trans hEg111q2)
      clear hEg111q2
      refine rgK hK (HSQ.out _ HXg111q_2.out) (fun hSg111q2 => ?_)
      clear hK K
      refine wpAnyH_ready (rs := [16]) (by kernel_rfl) (by simp) ?_
      refine (AllReadyH.consL rfl (fun K hK => ?g111qb16x17) AllReadyH.nil)
      case' g111qb16x17 =>
       have HXend := HXg111q_2
       have y0 := HZB.out.bx.1
       have y1 := HZB.out.bx.2.1
       have y2 := HZB.out.bx.2.2.1
       have y3 := HZB.out.bx.2.2.2.1
       have y4 := HZB.out.bx.2.2.2.2.1
       have yf0 := HZB.out.bx.2.2.2.2.2 0
       have yf1 := HZB.out.bx.2.2.2.2.2 1
       have yf2 := HZB.out.bx.2.2.2.2.2 2
       have yf3 := HZB.out.bx.2.2.2.2.2 3
       have yf4 := HZB.out.bx.2.2.2.2.2 4
       go_simp
       have HXg111q_3 := HXg111q_2
       clear y0 y1 y2 y3 y4 yf0 yf1 yf2 yf3 yf4
       refine rgK hK (HSQ.out _ (set5_ext (b := aZ) HXg111q_2.out HZB.out.ge _ _ _ _ _)) (fun hSg111q3 => ?_)
       clear hK K
       refine rgT 17 ?_
       refine wpAnyH_done (by kernel_rfl) ?_ _
       obtain ⟨W7, hW7, hE7, ⟨t0, t1, t2, t3, t4⟩⟩ := putK HXend.out HZB.out (Nat.le_refl _) (.int .i64 x.kind) (.int .i64 x.size) (.int .i64 x.count) (.slice A5 n5 c5) (.slice B5 m5 e5)
       rw [hW7]
       go_wp2
       go_meet
       exact ⟨_, rfl, rfl, hid hE7, hid ⟨t0, t1⟩⟩
    case' g111qb15x12 =>
     go_simp
     obtain ⟨wL, aZ, hA1, hsz, hEg111q1, hge, hob⟩ := extAllocT HXg111q_0.out
     refine Eq.mpr (congrArg (K _) hA1) ?_
     first | rw [hsz] | (have hq : V.heap.size = aZ := hsz; rw [hq]; clear hq) | skip
     have HZB := hid (show ZTy V.heap.size aZ wL from ⟨hob, hge⟩)
     clear hA1 hsz hge hob
     have HXg111q_1 := hid (HXg111q_0.out.trans hEg111q1)
     clear hEg111q1
     refine rgK hK (HSQ.out _ HXg111q_1.out) (fun hSg111q1 => ?_)
     clear hK K
     refine wpAnyH_ready (rs := [11]) (by kernel_rfl) (by simp) ?_
     refine (AllReadyH.consL rfl (fun K hK => ?g111qb11x19) AllReadyH.nil)
     case' g111qb11x19 =>
      go_simp
      go_at_call 19
      refine (HFC.out _ HXg111q_1.out).mono ?_
      rintro e w5 ⟨v5, b5, x5, rfl, hv5, hEg111q2, ho5⟩
      obtain ⟨rfl, rfl⟩ : b5 = true ∧ x = x5 := by rcases ho5 with ⟨h1, h2⟩ | ⟨_, h2⟩; (exact ⟨h1, Option.some.inj h2⟩); cases h2
      obtain ⟨A5, n5, c5, B5, m5, e5, rfl, -⟩ := hv5
      clear ho5
      have HXg111q_2 := hid (HXg111q_1.out.trans hEg111q2)
      have HZB := hid (HZB.out.ext hEg111q2)
      clear hEg111q2
      refine rgK hK (HSQ.out _ HXg111q_2.out) (fun hSg111q2 => ?_)
      clear hK K
      refine rgT3 12 13 14 ?_
      refine wpAnyH_ready (rs := [16]) (by kernel_rfl) (by simp) ?_
      refine (AllReadyH.consL rfl (fun K hK => ?g111qb16x23) AllReadyH.nil)
      case' g111qb16x23 =>
       have HXend := HXg111q_2
       have y0 := HZB.out.bx.1
       have y1 := HZB.out.bx.2.1
       have y2 := HZB.out.bx.2.2.1
       have y3 := HZB.out.bx.2.2.2.1
       have y4 := HZB.out.bx.2.2.2.2.1
       have yf0 := HZB.out.bx.2.2.2.2.2 0
       have yf1 := HZB.out.bx.2.2.2.2.2 1
       have yf2 := HZB.out.bx.2.2.2.2.2 2
       have yf3 := HZB.out.bx.2.2.2.2.2 3
       have yf4 := HZB.out.bx.2.2.2.2.2 4
       go_simp
       have HXg111q_3 := HXg111q_2
       clear y0 y1 y2 y3 y4 yf0 yf1 yf2 yf3 yf4
       refine rgK hK (HSQ.out _ (set5_ext (b := aZ) HXg111q_2.out HZB.out.ge _ _ _ _ _)) (fun hSg111q3 => ?_)
       clear hK K
       refine rgT 17 ?_
       refine wpAnyH_done (by kernel_rfl) ?_ _
       obtain ⟨W7, hW7, hE7, ⟨t0, t1, t2, t3, t4⟩⟩ := putK HXend.out HZB.out (Nat.le_refl _) (.int .i64 x.kind) (.int .i64 x.size) (.int .i64 x.count) (.slice A5 n5 c5) (.slice B5 m5 e5)
       rw [hW7]
       go_wp2
       go_meet
       exact ⟨_, rfl, rfl, hid hE7, hid ⟨t0, t1⟩⟩
   have hKM1 : ¬ (K : Int) < (M : Int) := by omega
   have HSQ := hid (fun W (hW : Ext V W) => HSC.out W hW)
   go_upto_region 20 with fail
   go_cut [12, 13] from 91 to 106 (fun s12 s13 wx => ∃ (aZ : Nat), s12 = .pointer (some ⟨aZ, 0, none⟩) ∧ s13 = .bool true ∧ Hid (Ext V wx) ∧ Hid (wx.cell? ⟨aZ, 0, none⟩ = some (.int .i64 x.kind) ∧ wx.cell? ⟨aZ, 1, none⟩ = some (.int .i64 x.size)))
   case rest =>
    obtain ⟨aZ, rfl, rfl, HE7, HC7⟩ := hcut
    obtain ⟨W7, hW7⟩ : ∃ W7, W7 = wc := ⟨_, rfl⟩
    obtain rfl := hW7
    obtain ⟨t0, t1⟩ := HC7.out
    clear o0 o1 o2 o3 o4
    obtain ⟨⟨o0, o1, o2, o3, o4⟩, y0, y1, y2, y3⟩ := HSC.out W7 HE7.out
    clear o0 o1 o2 o3 o4 y0 y1
    have g10 : (x.size != aw) = false := by rw [HXS.out]; simp
    rcases HXK.out with hk1 | ⟨hsg, hk2⟩
    case inl =>
     have g11 : (x.kind != 1) = false := by rw [hk1]; rfl
     clear hk1
     go_upto_region 21 with fail
     refine wp_region_held_drew (S := (fun w' => w'.cell? ⟨aZ, 0, none⟩ = some (.int .i64 x.kind) ∧ w'.cell? ⟨aZ, 1, none⟩ = some (.int .i64 x.size) ∧ w'.cell? ⟨b, of + I * 4 + 2, none⟩ = some (.int .i64 aw) ∧ w'.cell? ⟨b, of + I * 4 + 3, none⟩ = some (.bool sg))) (by kernel_rfl) ⟨t0, t1, y2, y3⟩ (fun hSg112q0 => ?_)
     refine rgT6 0 1 2 3 4 5 ?_
     refine rgT6 6 7 8 9 10 11 ?_
     refine rgT4 12 13 14 15 ?_
     refine rgT 16 ?_
     refine rgU4 17 18 19 20 ?_
     refine rgU4 21 22 23 24 ?_
     refine rgU2 25 26 ?_
     refine rgT2 27 28 ?_
     refine wpAnyH_done (by kernel_rfl) ?_ _
     go_wp2
     first
      | go_roundw
      | refine ⟨?rel, ?measure⟩
     case rel => exact ⟨I + 1, K, by omega, by omega, by go_num, rfl, HDN, hid (HX.out.trans HE7.out.drew)⟩
     case measure => simp [intOf]; omega
    case inr =>
     have g11 : (x.kind != 1) = true := by rw [hk2]; rfl
     have g12 : (x.kind != 2) = false := by rw [hk2]; rfl
     clear hk2
     go_upto_region 21 with fail
     refine wp_region_held_drew (S := (fun w' => w'.cell? ⟨aZ, 0, none⟩ = some (.int .i64 x.kind) ∧ w'.cell? ⟨aZ, 1, none⟩ = some (.int .i64 x.size) ∧ w'.cell? ⟨b, of + I * 4 + 2, none⟩ = some (.int .i64 aw) ∧ w'.cell? ⟨b, of + I * 4 + 3, none⟩ = some (.bool sg))) (by kernel_rfl) ⟨t0, t1, y2, y3⟩ (fun hSg113q0 => ?_)
     refine rgT6 0 1 2 3 4 5 ?_
     refine rgT6 6 7 8 9 10 11 ?_
     refine rgT6 12 13 14 15 16 17 ?_
     refine rgT6 18 19 20 21 22 23 ?_
     refine rgT4 24 25 26 27 ?_
     refine rgT 28 ?_
     refine wpAnyH_done (by kernel_rfl) ?_ _
     go_wp2
     first
      | go_roundw
      | refine ⟨?rel, ?measure⟩
     case rel => exact ⟨I + 1, K, by omega, by omega, by go_num, rfl, HDN, hid (HX.out.trans HE7.out.drew)⟩
     case measure => simp [intOf]; omega
   have HXg114q_0 := hid ((Ext.refl V).drew)
   refine wp_region_held_drew (S := (fun w' => (w'.cell? ⟨w2.heap.size, 0, none⟩ = some (.int .i64 t.kind) ∧ w'.cell? ⟨w2.heap.size, 1, none⟩ = some (.int .i64 t.size) ∧ w'.cell? ⟨w2.heap.size, 2, none⟩ = some (.int .i64 t.count) ∧ w'.cell? ⟨w2.heap.size, 3, none⟩ = some (.slice Aw2 nw2 cw2) ∧ w'.cell? ⟨w2.heap.size, 4, none⟩ = some (.slice Bw2 mw2 ew2)) ∧ w'.cell? ⟨b, of + I * 4, none⟩ = some (.int .i64 ab) ∧ w'.cell? ⟨b, of + I * 4 + 1, none⟩ = some (.int .i64 ao) ∧ w'.cell? ⟨b, of + I * 4 + 2, none⟩ = some (.int .i64 aw) ∧ w'.cell? ⟨b, of + I * 4 + 3, none⟩ = some (.bool sg))) (by kernel_rfl) (HSQ.out _ (Ext.refl _).drew) (fun hSg114q0 => ?_)
   refine rgT6 0 1 2 3 4 5 ?_
   refine rgT4 6 7 8 9 ?_
   refine rgT 10 ?_
   refine wpAnyH_ready (rs := [11, 15]) (by kernel_rfl) (by simp) ?_
   refine (AllReadyH.consL rfl (fun K hK => ?g114qb11x12) (AllReadyH.consL rfl (fun K hK => ?g114qb15x12) AllReadyH.nil))
   case' g114qb11x12 =>
    go_simp
    go_at_call 19
    refine (HFC.out _ HXg114q_0.out).mono ?_
    rintro e w5 ⟨v5, b5, x5, rfl, hv5, hEg114q1, ho5⟩
    obtain ⟨rfl, rfl⟩ : b5 = true ∧ x = x5 := by rcases ho5 with ⟨h1, h2⟩ | ⟨_, h2⟩; (exact ⟨h1, Option.some.inj h2⟩); cases h2
    obtain ⟨A5, n5, c5, B5, m5, e5, rfl, -⟩ := hv5
    clear ho5
    have HXg114q_1 := hid (HXg114q_0.out.trans hEg114q1)
    clear hEg114q1
    refine rgK hK (HSQ.out _ HXg114q_1.out) (fun hSg114q1 => ?_)
    clear hK K
    refine rgT3 12 13 14 ?_
    refine wpAnyH_ready (rs := [15]) (by kernel_rfl) (by simp) ?_
    refine (AllReadyH.consL rfl (fun K hK => ?g114qb15x16) AllReadyH.nil)
    case' g114qb15x16 =>
     go_simp
     obtain ⟨wL, aZ, hA1, hsz, hEg114q2, hge, hob⟩ := extAllocT HXg114q_1.out
     refine Eq.mpr (congrArg (K _) hA1) ?_
     first | rw [hsz] | (have hq : V.heap.size = aZ := hsz; rw [hq]; clear hq) | skip
     have HZB := hid (show ZTy V.heap.size aZ wL from ⟨hob, hge⟩)
     clear hA1 hsz hge hob
     have HXg114q_2 := hid (HXg114q_1.out.trans hEg114q2)
     clear hEg114q2
     refine rgK hK (HSQ.out _ HXg114q_2.out) (fun hSg114q2 => ?_)
     clear hK K
     refine wpAnyH_ready (rs := [16]) (by kernel_rfl) (by simp) ?_
     refine (AllReadyH.consL rfl (fun K hK => ?g114qb16x17) AllReadyH.nil)
     case' g114qb16x17 =>
      have HXend := HXg114q_2
      have y0 := HZB.out.bx.1
      have y1 := HZB.out.bx.2.1
      have y2 := HZB.out.bx.2.2.1
      have y3 := HZB.out.bx.2.2.2.1
      have y4 := HZB.out.bx.2.2.2.2.1
      have yf0 := HZB.out.bx.2.2.2.2.2 0
      have yf1 := HZB.out.bx.2.2.2.2.2 1
      have yf2 := HZB.out.bx.2.2.2.2.2 2
      have yf3 := HZB.out.bx.2.2.2.2.2 3
      have yf4 := HZB.out.bx.2.2.2.2.2 4
      go_simp
      have HXg114q_3 := HXg114q_2
      clear y0 y1 y2 y3 y4 yf0 yf1 yf2 yf3 yf4
      refine rgK hK (HSQ.out _ (set5_ext (b := aZ) HXg114q_2.out HZB.out.ge _ _ _ _ _)) (fun hSg114q3 => ?_)
      clear hK K
      refine rgT 17 ?_
      refine wpAnyH_done (by kernel_rfl) ?_ _
      obtain ⟨W7, hW7, hE7, ⟨t0, t1, t2, t3, t4⟩⟩ := putK HXend.out HZB.out (Nat.le_refl _) (.int .i64 x.kind) (.int .i64 x.size) (.int .i64 x.count) (.slice A5 n5 c5) (.slice B5 m5 e5)
      rw [hW7]
      go_wp2
      go_meet
      exact ⟨_, rfl, rfl, hid hE7, hid ⟨t0, t1⟩⟩
   case' g114qb15x12 =>
    go_simp
    obtain ⟨wL, aZ, hA1, hsz, hEg114q1, hge, hob⟩ := extAllocT HXg114q_0.out
    refine Eq.mpr (congrArg (K _) hA1) ?_
    first | rw [hsz] | (have hq : V.heap.size = aZ := hsz; rw [hq]; clear hq) | skip
    have HZB := hid (show ZTy V.heap.size aZ wL from ⟨hob, hge⟩)
    clear hA1 hsz hge hob
    have HXg114q_1 := hid (HXg114q_0.out.trans hEg114q1)
    clear hEg114q1
    refine rgK hK (HSQ.out _ HXg114q_1.out) (fun hSg114q1 => ?_)
    clear hK K
    refine wpAnyH_ready (rs := [11]) (by kernel_rfl) (by simp) ?_
    refine (AllReadyH.consL rfl (fun K hK => ?g114qb11x19) AllReadyH.nil)
    case' g114qb11x19 =>
     go_simp
     go_at_call 19
     refine (HFC.out _ HXg114q_1.out).mono ?_
     rintro e w5 ⟨v5, b5, x5, rfl, hv5, hEg114q2, ho5⟩
     obtain ⟨rfl, rfl⟩ : b5 = true ∧ x = x5 := by rcases ho5 with ⟨h1, h2⟩ | ⟨_, h2⟩; (exact ⟨h1, Option.some.inj h2⟩); cases h2
     obtain ⟨A5, n5, c5, B5, m5, e5, rfl, -⟩ := hv5
     clear ho5
     have HXg114q_2 := hid (HXg114q_1.out.trans hEg114q2)
     have HZB := hid (HZB.out.ext hEg114q2)
     clear hEg114q2
     refine rgK hK (HSQ.out _ HXg114q_2.out) (fun hSg114q2 => ?_)
     clear hK K
     refine rgT3 12 13 14 ?_
     refine wpAnyH_ready (rs := [16]) (by kernel_rfl) (by simp) ?_
     refine (AllReadyH.consL rfl (fun K hK => ?g114qb16x23) AllReadyH.nil)
     case' g114qb16x23 =>
      have HXend := HXg114q_2
      have y0 := HZB.out.bx.1
      have y1 := HZB.out.bx.2.1
      have y2 := HZB.out.bx.2.2.1
      have y3 := HZB.out.bx.2.2.2.1
      have y4 := HZB.out.bx.2.2.2.2.1
      have yf0 := HZB.out.bx.2.2.2.2.2 0
      have yf1 := HZB.out.bx.2.2.2.2.2 1
      have yf2 := HZB.out.bx.2.2.2.2.2 2
      have yf3 := HZB.out.bx.2.2.2.2.2 3
      have yf4 := HZB.out.bx.2.2.2.2.2 4
      go_simp
      have HXg114q_3 := HXg114q_2
      clear y0 y1 y2 y3 y4 yf0 yf1 yf2 yf3 yf4
      refine rgK hK (HSQ.out _ (set5_ext (b := aZ) HXg114q_2.out HZB.out.ge _ _ _ _ _)) (fun hSg114q3 => ?_)
      clear hK K
      refine rgT 17 ?_
      refine wpAnyH_done (by kernel_rfl) ?_ _
      obtain ⟨W7, hW7, hE7, ⟨t0, t1, t2, t3, t4⟩⟩ := putK HXend.out HZB.out (Nat.le_refl _) (.int .i64 x.kind) (.int .i64 x.size) (.int .i64 x.count) (.slice A5 n5 c5) (.slice B5 m5 e5)
      rw [hW7]
      go_wp2
      go_meet
      exact ⟨_, rfl, rfl, hid hE7, hid ⟨t0, t1⟩⟩
end Go.Proofs.YtacmjhcfjhpkeaaGreatDoor
