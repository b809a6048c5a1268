/- decompilerref34.field. -/
import Derived.Test.YtacmjhcfjhpkeaaGreatDoorRfGm
namespace Go.Proofs.YtacmjhcfjhpkeaaGreatDoor
open Go.RowKit Go.Deco
set_option linter.unusedSimpArgs false
set_option linter.unusedVariables false

/-- 'whole' behind k elements. -/
def whK (q : Bool) (y : Int × Ty) (g : List (Int × Ty)) (k : Nat) : Bool := decide (k = 1) || (q && (g.take k).all (sizedP y))
theorem whK_step {q : Bool} {y x : Int × Ty} {g : List (Int × Ty)} {k : Nat} (hq : intK y.2 = q) (hy : g[0]? = some y) (h1 : 1 ≤ k) (hx : g[k]? = some x) : whK q y g (k + 1) = (whK q y g k && (sizedP y x && q)) := by
  unfold whK
  rw [decide_eq_false (show ¬ k + 1 = 1 by omega), Bool.false_or, all_snocT hx]
  by_cases hk : k = 1
  · subst hk
    have e : g.take 1 = [y] := by
      cases g with
      | nil => cases hy
      | cons a g =>
        have : a = y := by simpa using hy
        subst this; rfl
    have e2 : sizedP y y = q := by unfold sizedP; rw [hq]; simp
    rw [e, decide_eq_true rfl]
    simp only [List.all_cons, List.all_nil, Bool.and_true, e2, Bool.true_or, Bool.true_and]
    cases q <;> cases sizedP y x <;> rfl
  · rw [decide_eq_false hk, Bool.false_or]
    cases q <;> cases sizedP y x <;> cases (g.take k).all (sizedP y) <;> rfl
theorem same_one {y : Int × Ty} {g : List (Int × Ty)} (hy : g[0]? = some y) : (g.take 1).all (sameP y) = true ∧ lastF (g.take 1) = max 0 (endF y) := by
  have e : g.take 1 = [y] := by
    cases g with
    | nil => cases hy
    | cons a g => have : a = y := by simpa using hy
                  subst this; rfl
  rw [e]
  refine ⟨?_, rfl⟩
  simp [sameP, sameT_refl]
set_option maxRecDepth 100000 in
set_option maxHeartbeats 8000000 in
theorem rfield_any (d : Nat) (w : World) (S0 : Nat → Prop) (A : Option Addr) (n c : Nat) (g : List (Int × Ty)) (hl : Sl (fdR (tyR d)) w S0 (.slice A n c) g) (hn0 : 0 < n) (hn : n ≤ 100000) (hoff : ∀ f ∈ g, 0 ≤ f.1 ∧ f.1 ≤ 131072) :
    Calls Tryz.prog 63 #[.slice A n c] w (FieldIs (d + 1) w S0 (fieldG g).1 (fieldG g).2) := by
  have hln := hl.len
  obtain ⟨hnc, hcm⟩ := hl.cap
  obtain ⟨y, hy⟩ : ∃ y, g[0]? = some y := ⟨_, List.getElem?_eq_getElem (by omega)⟩
  obtain ⟨d', b, off, A1, n1, c1, B1, m1, e1, hd, rfl, hv1, hi1, y0, y1, y2, y3, y4, y5⟩ := hl.fd_at hy
  rw [Nat.zero_mul, Nat.add_zero] at y0 y1 y2 y3 y4 y5
  have hfg := fieldG_eq hy
  obtain ⟨F, hF⟩ : ∃ F, fieldG g = F := ⟨_, rfl⟩
  rw [hF] at hfg ⊢
  have HFG := hid hfg
  have hyo := hoff y (List.mem_of_getElem? hy)
  have HLN := hid hln
  have HL := hid hl
  have HOFF := hid hoff
  have HY := hid hy
  have HD := hid hd
  have HV := hid hv1
  have HI := hid hi1
  have hen0 := endF_ge y
  have hen1 : endF y ≤ 262144 := by have := sizeT_le y.2; unfold endF; omega
  have HFY := hid (fun (w' : World) (hw : Ext w w') => rend_any d' w' y _ (FdV.ext ⟨A1, n1, c1, B1, m1, e1, rfl, hi1, hv1.all⟩ hw) hyo.1 hyo.2)
  have HS1 := hid (same_one hy)
  obtain ⟨eny, heny⟩ : ∃ en, endF y = en := ⟨_, rfl⟩
  rw [heny] at hen0 hen1 HFY HS1
  have heny0 : 0 ≤ eny := by omega
  obtain ⟨yo, yt⟩ := y
  simp only at y0 y1 y2 y3 y4 y5 hyo HV HI HFG HFY
  obtain ⟨W0, hW0⟩ : ∃ W0, w.alloc (.cells #[.int .i64 0, .int .i64 0, .int .i64 0, .int .i64 0, .slice none 0 0, .slice none 0 0] 48) = W0 := ⟨_, rfl⟩
  have hE0 : Ext w W0 := by rw [← hW0]; exact (Ext.refl w).alloc _
  have hs0 : W0.heap.size = w.heap.size + 1 := by rw [← hW0]; simp
  have HYC : Hid (W0.cell? ⟨b, off, none⟩ = some (.int .i64 yo) ∧ W0.cell? ⟨b, off + 1, none⟩ = some (.int .i64 yt.kind) ∧ W0.cell? ⟨b, off + 2, none⟩ = some (.int .i64 yt.size) ∧ W0.cell? ⟨b, off + 3, none⟩ = some (.int .i64 yt.count) ∧ W0.cell? ⟨b, off + 4, none⟩ = some (.slice A1 n1 c1) ∧ W0.cell? ⟨b, off + 5, none⟩ = some (.slice B1 m1 e1)) := hid ⟨hE0.cell y0, hE0.cell y1, hE0.cell y2, hE0.cell y3, hE0.cell y4, hE0.cell y5⟩
  have HBW : Hid (b < w.heap.size) := hid (World.block_lt_of_cell? _ _ y0)
  have HR : Hid ((W0.cell? ⟨w.heap.size, 0, none⟩ = some (.int .i64 0) ∧ W0.cell? ⟨w.heap.size, 1, none⟩ = some (.int .i64 0) ∧ W0.cell? ⟨w.heap.size, 2, none⟩ = some (.int .i64 0) ∧ W0.cell? ⟨w.heap.size, 3, none⟩ = some (.int .i64 0) ∧ W0.cell? ⟨w.heap.size, 4, none⟩ = some (.slice none 0 0) ∧ W0.cell? ⟨w.heap.size, 5, none⟩ = some (.slice none 0 0)) ∧ ∀ i, W0.frozen? ⟨w.heap.size, i, none⟩ = false) := hid (by
    refine ⟨⟨?_, ?_, ?_, ?_, ?_, ?_⟩, fun i => ?_⟩
    all_goals rw [← hW0]; simp [go_sem])
  have HS0 := hid hs0
  have HE0 := hid hE0
  obtain ⟨q, hq⟩ : ∃ q, intK yt = q := ⟨_, rfl⟩
  have HQ := hid hq
  have HCQ := hid (fun (w' : World) (hw : Ext w w') => whole_any d' w' (yo, yt) _ (FdV.ext ⟨A1, n1, c1, B1, m1, e1, rfl, hi1, hv1.all⟩ hw))
  simp only at HCQ
  rw [hq] at HCQ
  clear y0 y1 y2 y3 y4 y5
  obtain ⟨y0, y1, y2, y3, y4, y5⟩ := HYC.out
  clear hln hl hoff hy hd hv1 hi1 hfg hF hq hE0 hs0 heny
  unfold FieldIs
  go_enter Tryz.func63, Tryz.ntmps63
  go_wp2_with fail
  refine (HFY.out _ HE0.out).mono ?_
  rintro e w1 ⟨rfl, hx1⟩
  have HX1 := hid hx1
  clear hx1 hW0 y0 y1 y2 y3 y4 y5
  go_wp2
  go_loopw [7, 4, 5, 6] (fun i s5 s6 s7 wr => ∃ (k : Nat) (sm sz : Bool) (last : Int), 1 ≤ k ∧ k ≤ n ∧ 0 ≤ last ∧ last ≤ 262144 ∧ i = .int .i64 k ∧ s5 = .bool sm ∧ s6 = .bool sz ∧ s7 = .int .i64 last ∧
    Hid ((g.take k).all (sameP (yo, yt)) = sm ∧ whK q (yo, yt) g k = sz ∧ lastF (g.take k) = last) ∧ Hid (Ext W0 wr)) (fun i _ _ _ _ => n - (intOf i).toNat)
  case atStart => exact ⟨1, true, true, eny, by omega, by omega, by omega, by omega, rfl, rfl, rfl, rfl, hid ⟨HS1.out.1, rfl, by rw [HS1.out.2]; omega⟩, HX1⟩
  case round =>
    obtain ⟨k, sm, sz, last, hk0, hk, hl0, hl1, rfl, rfl, rfl, rfl, HIN, HX⟩ := hrel
    by_cases h1 : k < n
    · obtain ⟨x, hx⟩ : ∃ x, g[k]? = some x := ⟨_, List.getElem?_eq_getElem (by have := HLN.out; omega)⟩
      obtain ⟨d2, b', off', A2, n2, c2, B2, m2, e2, hd2, hbo, hv2, hi2, x0, x1, x2, x3, x4, x5⟩ := (HL.out.ext (HE0.out.trans HX.out)).fd_at hx
      obtain ⟨rfl, rfl⟩ : b = b' ∧ off = off' := by simpa using hbo
      obtain rfl : d' = d2 := by have := HD.out; omega
      have hxo := HOFF.out x (List.mem_of_getElem? hx)
      have HS := hid (all_snocT (p := sameP (yo, yt)) hx)
      have HZ := hid (whK_step HQ.out HY.out hk0 hx)
      have HLS : Hid (lastF (g.take (k + 1)) = max (lastF (g.take k)) (endF x)) := hid (by rw [take_snoc' hx, lastF_snoc])
      have HFD := hid (fun (w' : World) (hw : Ext wr w') => (FdV.ext ⟨A2, n2, c2, B2, m2, e2, rfl, hi2, hv2.all⟩ hw : FdV d' w' All (.agg #[.int .i64 x.1, .int .i64 x.2.kind, .int .i64 x.2.size, .int .i64 x.2.count, .slice A2 n2 c2, .slice B2 m2 e2]) x))
      have HTV := hid (fun (w' : World) (hw : Ext wr w') => (hv2.ext hw).all)
      have HEC := hid (fun (w' : World) (hw : Ext wr w') => rend_any d' w' x _ (HFD.out w' hw) hxo.1 hxo.2)
      have HWC := hid (fun (w' : World) (hw : Ext wr w') => whole_any d' w' x _ (HFD.out w' hw))
      have hen0 := endF_ge x
      have hen1 : endF x ≤ 262144 := by have := sizeT_le x.2; unfold endF; omega
      obtain ⟨en, hen⟩ : ∃ en, endF x = en := ⟨_, rfl⟩
      rw [hen] at HEC hen0 hen1 HLS
      have hen2 : 0 ≤ en := by omega
      obtain ⟨xo, xt⟩ := x
      simp only at x0 x1 x2 x3 x4 x5 HTV HFD HEC HWC
      have HXC : Hid (wr.cell? ⟨b, off + k * 6, none⟩ = some (.int .i64 xo) ∧ wr.cell? ⟨b, off + k * 6 + 1, none⟩ = some (.int .i64 xt.kind) ∧ wr.cell? ⟨b, off + k * 6 + 2, none⟩ = some (.int .i64 xt.size) ∧ wr.cell? ⟨b, off + k * 6 + 3, none⟩ = some (.int .i64 xt.count) ∧ wr.cell? ⟨b, off + k * 6 + 4, none⟩ = some (.slice A2 n2 c2) ∧ wr.cell? ⟨b, off + k * 6 + 5, none⟩ = some (.slice B2 m2 e2)) := hid ⟨x0, x1, x2, x3, x4, x5⟩
      have hkn : (k : Int) < (n : Int) := by omega
      obtain ⟨sm', hsm⟩ : ∃ s, (sm && sameP (yo, yt) (xo, xt)) = s := ⟨_, rfl⟩
      obtain ⟨sz', hsz⟩ : ∃ s, (sz && (sizedP (yo, yt) (xo, xt) && q)) = s := ⟨_, rfl⟩
      have HSM := hid hsm
      have HSZ := hid hsz
      have HNX : Hid ((g.take (k + 1)).all (sameP (yo, yt)) = sm' ∧ whK q (yo, yt) g (k + 1) = sz' ∧ lastF (g.take (k + 1)) = max last en) := hid ⟨by rw [HS.out, HIN.out.1]; exact HSM.out, by rw [HZ.out, HIN.out.2.1]; exact HSZ.out, by rw [HLS.out, HIN.out.2.2]⟩
      clear hbo hd2 hv2 hi2 hx hxo hen hen0 hsm hsz x0 x1 x2 x3 x4 x5
      go_upto_region 6 with fail
      have y0 := HX.out.cell HYC.out.1
      have y1 := HX.out.cell HYC.out.2.1
      have y2 := HX.out.cell HYC.out.2.2.1
      have y3 := HX.out.cell HYC.out.2.2.2.1
      have y4 := HX.out.cell HYC.out.2.2.2.2.1
      have y5 := HX.out.cell HYC.out.2.2.2.2.2
      obtain ⟨x0, x1, x2, x3, x4, x5⟩ := HXC.out
      go_cut [4] from 18 to 42 (fun s5 wx => s5 = .bool sm' ∧ Hid (Ext wr wx))
      case first =>
        cases sm with
        | false =>
          obtain rfl : sm' = false := HSM.out.symm
          go_wp2_with fail
          refine wp_region_held_drew (S := (fun w' => w'.cell? ⟨b, off, none⟩ = some (.int .i64 yo) ∧ w'.cell? ⟨b, off + 1, none⟩ = some (.int .i64 yt.kind) ∧ w'.cell? ⟨b, off + 2, none⟩ = some (.int .i64 yt.size) ∧ w'.cell? ⟨b, off + 3, none⟩ = some (.int .i64 yt.count) ∧ w'.cell? ⟨b, off + 4, none⟩ = some (.slice A1 n1 c1) ∧ w'.cell? ⟨b, off + 5, none⟩ = some (.slice B1 m1 e1) ∧ w'.cell? ⟨b, off + k * 6, none⟩ = some (.int .i64 xo) ∧ w'.cell? ⟨b, off + k * 6 + 1, none⟩ = some (.int .i64 xt.kind) ∧ w'.cell? ⟨b, off + k * 6 + 2, none⟩ = some (.int .i64 xt.size) ∧ w'.cell? ⟨b, off + k * 6 + 3, none⟩ = some (.int .i64 xt.count) ∧ w'.cell? ⟨b, off + k * 6 + 4, none⟩ = some (.slice A2 n2 c2) ∧ w'.cell? ⟨b, off + k * 6 + 5, none⟩ = some (.slice B2 m2 e2))) (by kernel_rfl) ⟨y0, y1, y2, y3, y4, y5, x0, x1, x2, x3, x4, x5⟩ (fun hSg39q0 => ?_)
          refine rgT2 0 1 ?_
          refine rgU4 2 3 4 5 ?_
          refine rgU4 6 7 8 9 ?_
          refine rgU2 10 11 ?_
          refine rgT2 12 13 ?_
          refine rgU4 14 15 16 17 ?_
          refine rgU4 18 19 20 21 ?_
          refine rgU 22 ?_
          refine rgC 23 (fun K hK => ?_)
          refine cast (if_neg (fun h => Bool.noConfusion (show false = true from h))).symm ?_
          refine rgK hK (by assumption) (fun hSg39q1 => ?_)
          clear hK K
          refine rgT2 24 25 ?_
          refine wpAnyH_done (by kernel_rfl) ?_ _
          go_wp2
          go_meet
          exact ⟨rfl, hid (Ext.refl wr).drew⟩
        | true =>
          by_cases ho : xo = yo
          · obtain ⟨r, hr⟩ : ∃ r, sameT xt yt = r := ⟨_, rfl⟩
            have hs : sm' = r := by rw [← HSM.out]; simp [sameP, ho, hr]
            have HC := hid (fun w' (hw : Ext wr w') => same31_any d' w' xt yt _ _ (HTV.out _ hw) (HV.out.ext (HE0.out.trans (HX.out.trans hw))).all)
            rw [hr, ← hs] at HC
            clear hs hr
            rw [ho] at x0
            clear ho
            go_wp2_with fail
            refine wp_region_held_drew (S := (fun w' => w'.cell? ⟨b, off, none⟩ = some (.int .i64 yo) ∧ w'.cell? ⟨b, off + 1, none⟩ = some (.int .i64 yt.kind) ∧ w'.cell? ⟨b, off + 2, none⟩ = some (.int .i64 yt.size) ∧ w'.cell? ⟨b, off + 3, none⟩ = some (.int .i64 yt.count) ∧ w'.cell? ⟨b, off + 4, none⟩ = some (.slice A1 n1 c1) ∧ w'.cell? ⟨b, off + 5, none⟩ = some (.slice B1 m1 e1) ∧ w'.cell? ⟨b, off + k * 6, none⟩ = some (.int .i64 yo) ∧ w'.cell? ⟨b, off + k * 6 + 1, none⟩ = some (.int .i64 xt.kind) ∧ w'.cell? ⟨b, off + k * 6 + 2, none⟩ = some (.int .i64 xt.size) ∧ w'.cell? ⟨b, off + k * 6 + 3, none⟩ = some (.int .i64 xt.count) ∧ w'.cell? ⟨b, off + k * 6 + 4, none⟩ = some (.slice A2 n2 c2) ∧ w'.cell? ⟨b, off + k * 6 + 5, none⟩ = some (.slice B2 m2 e2))) (by kernel_rfl) ⟨y0, y1, y2, y3, y4, y5, x0, x1, x2, x3, x4, x5⟩ (fun hSg40q0 => ?_)
            refine rgT6 0 1 2 3 4 5 ?_
            refine rgT6 6 7 8 9 10 11 ?_
            refine rgT6 12 13 14 15 16 17 ?_
            refine rgT4 18 19 20 21 ?_
            refine rgT 22 ?_
            refine rgC 23 (fun K hK => ?_)
            go_simp
            go_at_call 21
            refine (HC.out _ (Ext.refl wr).drew).mono ?_
            rintro e w5 ⟨rfl, hx5⟩
            have HX5 := hid hx5.drew_left
            clear hx5
            refine rgK hK ⟨HX5.out.cell y0, HX5.out.cell y1, HX5.out.cell y2, HX5.out.cell y3, HX5.out.cell y4, HX5.out.cell y5, HX5.out.cell x0, HX5.out.cell x1, HX5.out.cell x2, HX5.out.cell x3, HX5.out.cell x4, HX5.out.cell x5⟩ (fun hSg40q1 => ?_)
            clear hK K
            refine rgT2 24 25 ?_
            refine wpAnyH_done (by kernel_rfl) ?_ _
            go_wp2
            go_meet
            exact ⟨rfl, HX5⟩
          · have g1 : (xo == yo) = false := by simp [ho]
            obtain rfl : sm' = false := by rw [← HSM.out]; simp [sameP, ho]
            clear ho
            go_wp2_with fail
            refine wp_region_held_drew (S := (fun w' => w'.cell? ⟨b, off, none⟩ = some (.int .i64 yo) ∧ w'.cell? ⟨b, off + 1, none⟩ = some (.int .i64 yt.kind) ∧ w'.cell? ⟨b, off + 2, none⟩ = some (.int .i64 yt.size) ∧ w'.cell? ⟨b, off + 3, none⟩ = some (.int .i64 yt.count) ∧ w'.cell? ⟨b, off + 4, none⟩ = some (.slice A1 n1 c1) ∧ w'.cell? ⟨b, off + 5, none⟩ = some (.slice B1 m1 e1) ∧ w'.cell? ⟨b, off + k * 6, none⟩ = some (.int .i64 xo) ∧ w'.cell? ⟨b, off + k * 6 + 1, none⟩ = some (.int .i64 xt.kind) ∧ w'.cell? ⟨b, off + k * 6 + 2, none⟩ = some (.int .i64 xt.size) ∧ w'.cell? ⟨b, off + k * 6 + 3, none⟩ = some (.int .i64 xt.count) ∧ w'.cell? ⟨b, off + k * 6 + 4, none⟩ = some (.slice A2 n2 c2) ∧ w'.cell? ⟨b, off + k * 6 + 5, none⟩ = some (.slice B2 m2 e2))) (by kernel_rfl) ⟨y0, y1, y2, y3, y4, y5, x0, x1, x2, x3, x4, x5⟩ (fun hSg41q0 => ?_)
            refine rgT6 0 1 2 3 4 5 ?_
            refine rgT6 6 7 8 9 10 11 ?_
            refine rgT2 12 13 ?_
            refine rgU4 14 15 16 17 ?_
            refine rgU4 18 19 20 21 ?_
            refine rgU 22 ?_
            refine rgC 23 (fun K hK => ?_)
            refine cast (if_neg (fun h => Bool.noConfusion (show false = true from h))).symm ?_
            refine rgK hK (by assumption) (fun hSg41q1 => ?_)
            clear hK K
            refine rgT2 24 25 ?_
            refine wpAnyH_done (by kernel_rfl) ?_ _
            go_wp2
            go_meet
            exact ⟨rfl, hid (Ext.refl wr).drew⟩
      case rest =>
        obtain ⟨rfl, HXD⟩ := hcut
        obtain ⟨U, hU⟩ : ∃ U, U = wc := ⟨_, rfl⟩
        obtain rfl := hU
        clear x0 x1 x2 x3 x4 x5 y0 y1 y2 y3 y4 y5
        go_upto_region 7 with fail
        have y0 := (HX.out.trans HXD.out).cell HYC.out.1
        have y1 := (HX.out.trans HXD.out).cell HYC.out.2.1
        have y2 := (HX.out.trans HXD.out).cell HYC.out.2.2.1
        have y3 := (HX.out.trans HXD.out).cell HYC.out.2.2.2.1
        have y4 := (HX.out.trans HXD.out).cell HYC.out.2.2.2.2.1
        have y5 := (HX.out.trans HXD.out).cell HYC.out.2.2.2.2.2
        have x0 := HXD.out.cell HXC.out.1
        have x1 := HXD.out.cell HXC.out.2.1
        have x2 := HXD.out.cell HXC.out.2.2.1
        have x3 := HXD.out.cell HXC.out.2.2.2.1
        have x4 := HXD.out.cell HXC.out.2.2.2.2.1
        have x5 := HXD.out.cell HXC.out.2.2.2.2.2
        go_cut [5] from 43 to 82 (fun s5 wx => s5 = .bool sz' ∧ Hid (Ext U wx))
        case first =>
          cases sz with
          | false =>
            obtain rfl : sz' = false := HSZ.out.symm
            go_wp2_with fail
            refine wp_region_held_drew (S := (fun w' => w'.cell? ⟨b, off, none⟩ = some (.int .i64 yo) ∧ w'.cell? ⟨b, off + 1, none⟩ = some (.int .i64 yt.kind) ∧ w'.cell? ⟨b, off + 2, none⟩ = some (.int .i64 yt.size) ∧ w'.cell? ⟨b, off + 3, none⟩ = some (.int .i64 yt.count) ∧ w'.cell? ⟨b, off + 4, none⟩ = some (.slice A1 n1 c1) ∧ w'.cell? ⟨b, off + 5, none⟩ = some (.slice B1 m1 e1) ∧ w'.cell? ⟨b, off + k * 6, none⟩ = some (.int .i64 xo) ∧ w'.cell? ⟨b, off + k * 6 + 1, none⟩ = some (.int .i64 xt.kind) ∧ w'.cell? ⟨b, off + k * 6 + 2, none⟩ = some (.int .i64 xt.size) ∧ w'.cell? ⟨b, off + k * 6 + 3, none⟩ = some (.int .i64 xt.count) ∧ w'.cell? ⟨b, off + k * 6 + 4, none⟩ = some (.slice A2 n2 c2) ∧ w'.cell? ⟨b, off + k * 6 + 5, none⟩ = some (.slice B2 m2 e2))) (by kernel_rfl) ⟨y0, y1, y2, y3, y4, y5, x0, x1, x2, x3, x4, x5⟩ (fun hSg42q0 => ?_)
            refine rgT2 0 1 ?_
            refine rgU4 2 3 4 5 ?_
            refine rgU4 6 7 8 9 ?_
            refine rgU2 10 11 ?_
            refine rgT2 12 13 ?_
            refine rgU4 14 15 16 17 ?_
            refine rgC 18 (fun K hK => ?_)
            refine cast (if_neg (fun h => Bool.noConfusion (show false = true from h))).symm ?_
            refine rgK hK (by assumption) (fun hSg42q1 => ?_)
            clear hK K
            refine rgT2 19 20 ?_
            refine rgU2 21 22 ?_
            refine rgU 23 ?_
            refine rgC 24 (fun K hK => ?_)
            refine cast (if_neg (fun h => Bool.noConfusion (show false = true from h))).symm ?_
            refine rgK hK (by assumption) (fun hSg42q2 => ?_)
            clear hK K
            refine rgT2 25 26 ?_
            refine rgU4 27 28 29 30 ?_
            refine rgU4 31 32 33 34 ?_
            refine rgU4 35 36 37 38 ?_
            refine rgT2 39 40 ?_
            refine wpAnyH_done (by kernel_rfl) ?_ _
            go_wp2
            go_meet
            exact ⟨rfl, hid (Ext.refl U).drew⟩
          | true =>
            by_cases ho : xo = yo
            · obtain ⟨r, hr⟩ : ∃ r, intK xt = r := ⟨_, rfl⟩
              have hs : sz' = ((r && decide (xt.size = yt.size)) && q) := by rw [← HSZ.out]; simp [sizedP, ho, hr]
              have HSS := hid hs
              rw [hr, ho] at HWC
              clear hr hs
              rw [ho] at x0
              clear ho
              cases r with
              | false =>
                obtain rfl : sz' = false := by rw [HSS.out]; rfl
                go_wp2_with fail
                refine wp_region_held_drew (S := (fun w' => w'.cell? ⟨b, off, none⟩ = some (.int .i64 yo) ∧ w'.cell? ⟨b, off + 1, none⟩ = some (.int .i64 yt.kind) ∧ w'.cell? ⟨b, off + 2, none⟩ = some (.int .i64 yt.size) ∧ w'.cell? ⟨b, off + 3, none⟩ = some (.int .i64 yt.count) ∧ w'.cell? ⟨b, off + 4, none⟩ = some (.slice A1 n1 c1) ∧ w'.cell? ⟨b, off + 5, none⟩ = some (.slice B1 m1 e1) ∧ w'.cell? ⟨b, off + k * 6, none⟩ = some (.int .i64 yo) ∧ w'.cell? ⟨b, off + k * 6 + 1, none⟩ = some (.int .i64 xt.kind) ∧ w'.cell? ⟨b, off + k * 6 + 2, none⟩ = some (.int .i64 xt.size) ∧ w'.cell? ⟨b, off + k * 6 + 3, none⟩ = some (.int .i64 xt.count) ∧ w'.cell? ⟨b, off + k * 6 + 4, none⟩ = some (.slice A2 n2 c2) ∧ w'.cell? ⟨b, off + k * 6 + 5, none⟩ = some (.slice B2 m2 e2))) (by kernel_rfl) ⟨y0, y1, y2, y3, y4, y5, x0, x1, x2, x3, x4, x5⟩ (fun hSg43q0 => ?_)
                refine rgT6 0 1 2 3 4 5 ?_
                refine rgT6 6 7 8 9 10 11 ?_
                refine rgT6 12 13 14 15 16 17 ?_
                refine rgC 18 (fun K hK => ?_)
                go_simp
                go_at_call 97
                refine (HWC.out _ (HXD.out.trans (Ext.refl U).drew)).mono ?_
                rintro e w5 ⟨rfl, hx5⟩
                have HX5 := hid hx5.drew_left
                clear hx5
                refine rgK hK ⟨HX5.out.cell y0, HX5.out.cell y1, HX5.out.cell y2, HX5.out.cell y3, HX5.out.cell y4, HX5.out.cell y5, HX5.out.cell x0, HX5.out.cell x1, HX5.out.cell x2, HX5.out.cell x3, HX5.out.cell x4, HX5.out.cell x5⟩ (fun hSg43q1 => ?_)
                clear hK K
                refine rgT2 19 20 ?_
                refine rgU2 21 22 ?_
                refine rgU 23 ?_
                refine rgC 24 (fun K hK => ?_)
                refine cast (if_neg (fun h => Bool.noConfusion (show false = true from h))).symm ?_
                refine rgK hK (by assumption) (fun hSg43q2 => ?_)
                clear hK K
                refine rgT2 25 26 ?_
                refine rgU4 27 28 29 30 ?_
                refine rgU4 31 32 33 34 ?_
                refine rgU4 35 36 37 38 ?_
                refine rgT2 39 40 ?_
                refine wpAnyH_done (by kernel_rfl) ?_ _
                go_wp2
                go_meet
                exact ⟨rfl, HX5⟩
              | true =>
                cases q with
                | false =>
                  obtain rfl : sz' = false := by rw [HSS.out]; simp
                  go_wp2_with fail
                  refine wp_region_held_drew (S := (fun w' => w'.cell? ⟨b, off, none⟩ = some (.int .i64 yo) ∧ w'.cell? ⟨b, off + 1, none⟩ = some (.int .i64 yt.kind) ∧ w'.cell? ⟨b, off + 2, none⟩ = some (.int .i64 yt.size) ∧ w'.cell? ⟨b, off + 3, none⟩ = some (.int .i64 yt.count) ∧ w'.cell? ⟨b, off + 4, none⟩ = some (.slice A1 n1 c1) ∧ w'.cell? ⟨b, off + 5, none⟩ = some (.slice B1 m1 e1) ∧ w'.cell? ⟨b, off + k * 6, none⟩ = some (.int .i64 yo) ∧ w'.cell? ⟨b, off + k * 6 + 1, none⟩ = some (.int .i64 xt.kind) ∧ w'.cell? ⟨b, off + k * 6 + 2, none⟩ = some (.int .i64 xt.size) ∧ w'.cell? ⟨b, off + k * 6 + 3, none⟩ = some (.int .i64 xt.count) ∧ w'.cell? ⟨b, off + k * 6 + 4, none⟩ = some (.slice A2 n2 c2) ∧ w'.cell? ⟨b, off + k * 6 + 5, none⟩ = some (.slice B2 m2 e2))) (by kernel_rfl) ⟨y0, y1, y2, y3, y4, y5, x0, x1, x2, x3, x4, x5⟩ (fun hSg44q0 => ?_)
                  refine rgT6 0 1 2 3 4 5 ?_
                  refine rgT6 6 7 8 9 10 11 ?_
                  refine rgT6 12 13 14 15 16 17 ?_
                  refine rgC 18 (fun K hK => ?_)
                  go_simp
                  go_at_call 97
                  refine (HWC.out _ (HXD.out.trans (Ext.refl U).drew)).mono ?_
                  rintro e w5 ⟨rfl, hx5⟩
                  have HX5 := hid hx5.drew_left
                  clear hx5
                  refine rgK hK ⟨HX5.out.cell y0, HX5.out.cell y1, HX5.out.cell y2, HX5.out.cell y3, HX5.out.cell y4, HX5.out.cell y5, HX5.out.cell x0, HX5.out.cell x1, HX5.out.cell x2, HX5.out.cell x3, HX5.out.cell x4, HX5.out.cell x5⟩ (fun hSg44q1 => ?_)
                  clear hK K
                  refine rgT4 19 20 21 22 ?_
                  refine rgT 23 ?_
                  refine rgC 24 (fun K hK => ?_)
                  go_simp
                  go_at_call 97
                  refine (HCQ.out _ (HE0.out.trans (HX.out.trans (HXD.out.trans HX5.out)))).mono ?_
                  rintro e w6 ⟨rfl, hx6⟩
                  have HX6 := hid (HX5.out.trans hx6)
                  clear hx6
                  refine rgK hK ⟨HX6.out.cell y0, HX6.out.cell y1, HX6.out.cell y2, HX6.out.cell y3, HX6.out.cell y4, HX6.out.cell y5, HX6.out.cell x0, HX6.out.cell x1, HX6.out.cell x2, HX6.out.cell x3, HX6.out.cell x4, HX6.out.cell x5⟩ (fun hSg44q2 => ?_)
                  clear hK K
                  refine rgT2 25 26 ?_
                  refine rgU4 27 28 29 30 ?_
                  refine rgU4 31 32 33 34 ?_
                  refine rgU4 35 36 37 38 ?_
                  refine rgT2 39 40 ?_
                  refine wpAnyH_done (by kernel_rfl) ?_ _
                  go_wp2
                  go_meet
                  exact ⟨rfl, HX6⟩
                | true =>
                  have hfin : (xt.size == yt.size) = sz' := by rw [HSS.out, Bool.true_and, Bool.and_true]; rfl
                  have HFI := hid hfin
                  clear hfin
                  go_wp2_with fail
                  refine wp_region_held_drew (S := (fun w' => w'.cell? ⟨b, off, none⟩ = some (.int .i64 yo) ∧ w'.cell? ⟨b, off + 1, none⟩ = some (.int .i64 yt.kind) ∧ w'.cell? ⟨b, off + 2, none⟩ = some (.int .i64 yt.size) ∧ w'.cell? ⟨b, off + 3, none⟩ = some (.int .i64 yt.count) ∧ w'.cell? ⟨b, off + 4, none⟩ = some (.slice A1 n1 c1) ∧ w'.cell? ⟨b, off + 5, none⟩ = some (.slice B1 m1 e1) ∧ w'.cell? ⟨b, off + k * 6, none⟩ = some (.int .i64 yo) ∧ w'.cell? ⟨b, off + k * 6 + 1, none⟩ = some (.int .i64 xt.kind) ∧ w'.cell? ⟨b, off + k * 6 + 2, none⟩ = some (.int .i64 xt.size) ∧ w'.cell? ⟨b, off + k * 6 + 3, none⟩ = some (.int .i64 xt.count) ∧ w'.cell? ⟨b, off + k * 6 + 4, none⟩ = some (.slice A2 n2 c2) ∧ w'.cell? ⟨b, off + k * 6 + 5, none⟩ = some (.slice B2 m2 e2))) (by kernel_rfl) ⟨y0, y1, y2, y3, y4, y5, x0, x1, x2, x3, x4, x5⟩ (fun hSg45q0 => ?_)
                  refine rgT6 0 1 2 3 4 5 ?_
                  refine rgT6 6 7 8 9 10 11 ?_
                  refine rgT6 12 13 14 15 16 17 ?_
                  refine rgC 18 (fun K hK => ?_)
                  go_simp
                  go_at_call 97
                  refine (HWC.out _ (HXD.out.trans (Ext.refl U).drew)).mono ?_
                  rintro e w5 ⟨rfl, hx5⟩
                  have HX5 := hid hx5.drew_left
                  clear hx5
                  refine rgK hK ⟨HX5.out.cell y0, HX5.out.cell y1, HX5.out.cell y2, HX5.out.cell y3, HX5.out.cell y4, HX5.out.cell y5, HX5.out.cell x0, HX5.out.cell x1, HX5.out.cell x2, HX5.out.cell x3, HX5.out.cell x4, HX5.out.cell x5⟩ (fun hSg45q1 => ?_)
                  clear hK K
                  refine rgT4 19 20 21 22 ?_
                  refine rgT 23 ?_
                  refine rgC 24 (fun K hK => ?_)
                  go_simp
                  go_at_call 97
                  refine (HCQ.out _ (HE0.out.trans (HX.out.trans (HXD.out.trans HX5.out)))).mono ?_
                  rintro e w6 ⟨rfl, hx6⟩
                  have HX6 := hid (HX5.out.trans hx6)
                  clear hx6
                  refine rgK hK ⟨HX6.out.cell y0, HX6.out.cell y1, HX6.out.cell y2, HX6.out.cell y3, HX6.out.cell y4, HX6.out.cell y5, HX6.out.cell x0, HX6.out.cell x1, HX6.out.cell x2, HX6.out.cell x3, HX6.out.cell x4, HX6.out.cell x5⟩ (fun hSg45q2 => ?_)
                  clear hK K
                  refine rgT6 25 26 27 28 29 30 ?_
                  refine rgT6 31 32 33 34 35 36 ?_
                  refine rgT4 37 38 39 40 ?_
                  refine wpAnyH_done (by kernel_rfl) ?_ _
                  go_wp2
                  go_meet
                  exact ⟨by rw [← HFI.out], HX6⟩
            · have g1 : (xo == yo) = false := by simp [ho]
              obtain rfl : sz' = false := by rw [← HSZ.out]; simp [sizedP, ho]
              clear ho
              go_wp2_with fail
              refine wp_region_held_drew (S := (fun w' => w'.cell? ⟨b, off, none⟩ = some (.int .i64 yo) ∧ w'.cell? ⟨b, off + 1, none⟩ = some (.int .i64 yt.kind) ∧ w'.cell? ⟨b, off + 2, none⟩ = some (.int .i64 yt.size) ∧ w'.cell? ⟨b, off + 3, none⟩ = some (.int .i64 yt.count) ∧ w'.cell? ⟨b, off + 4, none⟩ = some (.slice A1 n1 c1) ∧ w'.cell? ⟨b, off + 5, none⟩ = some (.slice B1 m1 e1) ∧ w'.cell? ⟨b, off + k * 6, none⟩ = some (.int .i64 xo) ∧ w'.cell? ⟨b, off + k * 6 + 1, none⟩ = some (.int .i64 xt.kind) ∧ w'.cell? ⟨b, off + k * 6 + 2, none⟩ = some (.int .i64 xt.size) ∧ w'.cell? ⟨b, off + k * 6 + 3, none⟩ = some (.int .i64 xt.count) ∧ w'.cell? ⟨b, off + k * 6 + 4, none⟩ = some (.slice A2 n2 c2) ∧ w'.cell? ⟨b, off + k * 6 + 5, none⟩ = some (.slice B2 m2 e2))) (by kernel_rfl) ⟨y0, y1, y2, y3, y4, y5, x0, x1, x2, x3, x4, x5⟩ (fun hSg46q0 => ?_)
              refine rgT6 0 1 2 3 4 5 ?_
              refine rgT6 6 7 8 9 10 11 ?_
              refine rgT2 12 13 ?_
              refine rgU4 14 15 16 17 ?_
              refine rgC 18 (fun K hK => ?_)
              refine cast (if_neg (fun h => Bool.noConfusion (show false = true from h))).symm ?_
              refine rgK hK (by assumption) (fun hSg46q1 => ?_)
              clear hK K
              refine rgT2 19 20 ?_
              refine rgU2 21 22 ?_
              refine rgU 23 ?_
              refine rgC 24 (fun K hK => ?_)
              refine cast (if_neg (fun h => Bool.noConfusion (show false = true from h))).symm ?_
              refine rgK hK (by assumption) (fun hSg46q2 => ?_)
              clear hK K
              refine rgT2 25 26 ?_
              refine rgU4 27 28 29 30 ?_
              refine rgU4 31 32 33 34 ?_
              refine rgU4 35 36 37 38 ?_
              refine rgT2 39 40 ?_
              refine wpAnyH_done (by kernel_rfl) ?_ _
              go_wp2
              go_meet
              exact ⟨rfl, hid (Ext.refl U).drew⟩
        case rest =>
          obtain ⟨rfl, HXF⟩ := hcut
          obtain ⟨V, hV⟩ : ∃ V, V = wc := ⟨_, rfl⟩
          obtain rfl := hV
          have HUV := hid (HXD.out.trans HXF.out)
          clear x0 x1 x2 x3 x4 x5 y0 y1 y2 y3 y4 y5
          have x0 := HUV.out.cell HXC.out.1
          have x1 := HUV.out.cell HXC.out.2.1
          have x2 := HUV.out.cell HXC.out.2.2.1
          have x3 := HUV.out.cell HXC.out.2.2.2.1
          have x4 := HUV.out.cell HXC.out.2.2.2.2.1
          have x5 := HUV.out.cell HXC.out.2.2.2.2.2
          go_wp2_with fail
          refine (HEC.out _ HUV.out).mono ?_
          rintro e w5 ⟨rfl, hx5⟩
          have HX5 := hid (HX.out.trans (HUV.out.trans hx5))
          clear hx5 x0 x1 x2 x3 x4 x5
          go_wp2
          all_goals
            first
              | go_roundw
              | refine ⟨?rel, ?measure⟩
            case rel =>
              refine ⟨k + 1, sm', sz', max last en, by omega, by omega, by omega, by omega, by go_num, rfl, rfl, ?_, HNX, HX5⟩
              congr 1
              omega
            case measure => simp [intOf]; omega
    · have hkn : ¬ (k : Int) < (n : Int) := by omega
      obtain rfl : k = n := by omega
      have hin := HIN.out
      rw [List.take_of_length_le (by have := HLN.out; omega)] at hin
      have HIN2 := hid hin
      obtain ⟨V, hV⟩ : ∃ V, V = wr := ⟨_, rfl⟩
      obtain rfl := hV
      have HXV := hid (HE0.out.trans HX.out)
      have y0 := HX.out.cell HYC.out.1
      have y1 := HX.out.cell HYC.out.2.1
      have y2 := HX.out.cell HYC.out.2.2.1
      have y3 := HX.out.cell HYC.out.2.2.2.1
      have y4 := HX.out.cell HYC.out.2.2.2.2.1
      have y5 := HX.out.cell HYC.out.2.2.2.2.2
      have HFZ : Hid (∀ (W : World), Ext W0 W → ∀ i, W.frozen? ⟨w.heap.size, i, none⟩ = false) := hid (fun W hW i => (hW.frozen (p := ⟨w.heap.size, i, none⟩) (show w.heap.size < W0.heap.size from World.block_lt_of_cell? W0 ⟨w.heap.size, 0, none⟩ HR.out.1.1)).trans (HR.out.2 i))
      have hne2 : b ≠ w.heap.size := by have := HBW.out; omega
      have HBY : Hid (i64b yo ∧ 0 ≤ yo ∧ yo ≤ 131072) := hid ⟨HI.out, hyo.1, hyo.2⟩
      clear hin HIN hyo
      cases sm with
      | true =>
        have HF : Hid (F = ((yo, yt), false)) := hid (by rw [HFG.out, HIN2.out.1]; rfl)
        have r0 := HX.out.cell HR.out.1.1
        have r1 := HX.out.cell HR.out.1.2.1
        have r2 := HX.out.cell HR.out.1.2.2.1
        have r3 := HX.out.cell HR.out.1.2.2.2.1
        have r4 := HX.out.cell HR.out.1.2.2.2.2.1
        have r5 := HX.out.cell HR.out.1.2.2.2.2.2
        have f0 := HFZ.out _ HX.out 0
        have f1 := HFZ.out _ HX.out 1
        have f2 := HFZ.out _ HX.out 2
        have f3 := HFZ.out _ HX.out 3
        have f4 := HFZ.out _ HX.out 4
        have f5 := HFZ.out _ HX.out 5
        have hc := set6_cells r0 r1 r2 r3 r4 r5 (.int .i64 yo) (.int .i64 yt.kind) (.int .i64 yt.size) (.int .i64 yt.count) (.slice A1 n1 c1) (.slice B1 m1 e1)
        have hx := set6_ext HXV.out (Nat.le_refl _) (.int .i64 yo) (.int .i64 yt.kind) (.int .i64 yt.size) (.int .i64 yt.count) (.slice A1 n1 c1) (.slice B1 m1 e1)
        obtain ⟨W6, hW6⟩ : ∃ W6, (((((V.setCell ⟨w.heap.size, 0, none⟩ (.int .i64 yo)).setCell ⟨w.heap.size, 1, none⟩ (.int .i64 yt.kind)).setCell ⟨w.heap.size, 2, none⟩ (.int .i64 yt.size)).setCell ⟨w.heap.size, 3, none⟩ (.int .i64 yt.count)).setCell ⟨w.heap.size, 4, none⟩ (.slice A1 n1 c1)).setCell ⟨w.heap.size, 5, none⟩ (.slice B1 m1 e1) = W6 := ⟨_, rfl⟩
        rw [hW6] at hc hx
        obtain ⟨t0, t1, t2, t3, t4, t5⟩ := hc
        have HX6 := hid hx
        have HW6 := hid hW6
        clear hx hW6
        go_wp2
        rw [HW6.out]
        clear y0 y1 y2 y3 y4 y5 r0 r1 r2 r3 r4 r5
        refine bodyPost_ret (v := .tuple #[.agg #[.int .i64 yo, .int .i64 yt.kind, .int .i64 yt.size, .int .i64 yt.count, .slice A1 n1 c1, .slice B1 m1 e1], .bool false]) (by simp [results, Tryz.results63, go_sem, t0, t1, t2, t3, t4, t5]) rfl ?_
        refine ⟨_, by rw [HF.out], ?_, HX6.out⟩
        rw [HF.out]
        exact FdV.mono (fun b hb _ => .inl hb) (FdV.up (by have := HD.out; omega) ⟨A1, n1, c1, B1, m1, e1, rfl, HBY.out.1, HV.out.ext HX6.out⟩)
      | false =>
        have hk1 : k ≠ 1 := by
          intro h
          have h1 := HS1.out.1
          have h2 := HIN2.out.1
          have h3 : g.take 1 = g := List.take_of_length_le (by have := HLN.out; omega)
          rw [h3, h2] at h1
          cases h1
        have HWH : Hid ((q && g.all (sizedP (yo, yt))) = sz) := hid (by
          have h := HIN2.out.2.1
          unfold whK at h
          rwa [decide_eq_false hk1, Bool.false_or, List.take_of_length_le (by have := HLN.out; omega)] at h)
        clear hk1
        cases sz with
        | true =>
          have HF : Hid (F = ((yo, Ty.int yt.size), false)) := hid (by rw [HFG.out, HIN2.out.1, if_neg (by simp), show (intK yt && g.all (sizedP (yo, yt))) = true by rw [HQ.out]; exact HWH.out, if_pos rfl])
          go_wp2_with fail
          refine wp_region_held_drew (S := (fun w' => w'.cell? ⟨b, off, none⟩ = some (.int .i64 yo) ∧ w'.cell? ⟨b, off + 2, none⟩ = some (.int .i64 yt.size))) (by kernel_rfl) ⟨y0, y2⟩ (fun hSg47q0 => ?_)
          refine rgT6 0 1 2 3 4 5 ?_
          refine rgT3 6 7 8 ?_
          refine rgC 9 (fun K hK => ?_)
          go_simp
          go_at_call 32
          refine (rint_any _ yt.size).mono ?_
          rintro e w5 ⟨rfl, hx5⟩
          have HX5 := hid (HX.out.trans hx5.drew_left)
          have HXW := hid (HXV.out.trans hx5.drew_left)
          have y0 := hx5.drew_left.cell y0
          have y2 := hx5.drew_left.cell y2
          clear hx5
          have r0 := HX5.out.cell HR.out.1.1
          have r1 := HX5.out.cell HR.out.1.2.1
          have r2 := HX5.out.cell HR.out.1.2.2.1
          have r3 := HX5.out.cell HR.out.1.2.2.2.1
          have r4 := HX5.out.cell HR.out.1.2.2.2.2.1
          have r5 := HX5.out.cell HR.out.1.2.2.2.2.2
          have f0 := HFZ.out _ HX5.out 0
          have f1 := HFZ.out _ HX5.out 1
          have f2 := HFZ.out _ HX5.out 2
          have f3 := HFZ.out _ HX5.out 3
          have f4 := HFZ.out _ HX5.out 4
          have f5 := HFZ.out _ HX5.out 5
          have hc := set6_cells r0 r1 r2 r3 r4 r5 (.int .i64 yo) (.int .i64 1) (.int .i64 yt.size) (.int .i64 0) (.slice none 0 0) (.slice none 0 0)
          have hx := set6_ext HXW.out (Nat.le_refl _) (.int .i64 yo) (.int .i64 1) (.int .i64 yt.size) (.int .i64 0) (.slice none 0 0) (.slice none 0 0)
          obtain ⟨W6, hW6⟩ : ∃ W6, (((((w5.setCell ⟨w.heap.size, 0, none⟩ (.int .i64 yo)).setCell ⟨w.heap.size, 1, none⟩ (.int .i64 1)).setCell ⟨w.heap.size, 2, none⟩ (.int .i64 yt.size)).setCell ⟨w.heap.size, 3, none⟩ (.int .i64 0)).setCell ⟨w.heap.size, 4, none⟩ (.slice none 0 0)).setCell ⟨w.heap.size, 5, none⟩ (.slice none 0 0) = W6 := ⟨_, rfl⟩
          rw [hW6] at hc hx
          obtain ⟨t0, t1, t2, t3, t4, t5⟩ := hc
          have HX6 := hid hx
          have HW6 := hid hW6
          clear hx hW6
          refine rgK hK ⟨y0, y2⟩ (fun hSg47q1 => ?_)
          clear hK K
          refine rgT 10 ?_
          refine rgC 11 (fun K hK => ?_)
          go_simp
          refine rgK hK ⟨set6_far _ _ _ _ _ _ (by exact hne2) y0, set6_far _ _ _ _ _ _ (by exact hne2) y2⟩ (fun hSg47q2 => ?_)
          clear hK K
          refine rgT 12 ?_
          refine wpAnyH_done (by kernel_rfl) ?_ _
          go_wp2
          rw [HW6.out]
          clear y0 y1 y2 y3 y4 y5 r0 r1 r2 r3 r4 r5
          refine bodyPost_ret (v := .tuple #[.agg #[.int .i64 yo, .int .i64 1, .int .i64 yt.size, .int .i64 0, .slice none 0 0, .slice none 0 0], .bool false]) (by simp [results, Tryz.results63, go_sem, t0, t1, t2, t3, t4, t5]) rfl ?_
          refine ⟨_, by rw [HF.out], ?_, HX6.out⟩
          rw [HF.out]
          obtain ⟨_, _, _, _, _, _, _, _, _, -, hsb, -⟩ := HV.out
          exact ⟨none, 0, 0, none, 0, 0, rfl, HBY.out.1, tyV_leaf _ _ _ 1 yt.size (by unfold i64b; omega) hsb⟩
        | false =>
          have HF : Hid (F = ((yo, Ty.arr (Ty.uint 1) (last - yo)), true)) := hid (by rw [HFG.out, HIN2.out.1, if_neg (by simp), show (intK yt && g.all (sizedP (yo, yt))) = false by rw [HQ.out]; exact HWH.out, if_neg (by simp), HIN2.out.2.2])
          have w1 : IntKind.i64.wrap (last - yo) = last - yo := IntWalk.i64_in _ (by have := HBY.out; omega)
          go_wp2_with fail
          refine wp_region_held_drew (S := (fun w' => w'.cell? ⟨b, off, none⟩ = some (.int .i64 yo))) (by kernel_rfl) y0 (fun hSg48q0 => ?_)
          refine rgT6 0 1 2 3 5 6 ?_
          refine rgT4 7 8 9 10 ?_
          refine rgC 4 (fun K hK => ?_)
          go_simp
          go_at_call 89
          refine (ruint_any _ 1).mono ?_
          rintro e w4 ⟨rfl, hx4⟩
          have HX4 := hid hx4.drew_left
          have y0 := hx4.drew_left.cell y0
          clear hx4
          refine rgK hK y0 (fun hSg48q1 => ?_)
          clear hK K
          refine rgC 11 (fun K hK => ?_)
          go_simp
          go_at_call 90
          refine (rarr_any d' (fun _ => False) w4 (Ty.uint 1) _ (tyV_leaf d' w4 (fun _ => False) 2 1 (by unfold i64b; omega) (by unfold i64b; omega)) (last - yo) (by have := HBY.out; unfold i64b; omega)).mono ?_
          rintro e w5 ⟨_, rfl, hvv, hx5⟩
          obtain ⟨A7, n7, c7, B7, m7, e7, rfl, hv7⟩ := TyV.mono (S' := fun b => w4.heap.size ≤ b) (fun b hb _ => hb.elim (fun h => h.elim) id) hvv
          have hv7' : TyV (d' + 1) w5 (fun b => w4.heap.size ≤ b) (.agg #[.int .i64 4, .int .i64 0, .int .i64 (last - yo), .slice A7 n7 c7, .slice B7 m7 e7]) (Ty.arr (Ty.uint 1) (last - yo)) := ⟨A7, n7, c7, B7, m7, e7, rfl, hv7⟩
          have HV7 := hid hv7'
          clear hv7'
          have HX5 := hid (HX.out.trans (HX4.out.trans hx5))
          have HXW := hid (HXV.out.trans (HX4.out.trans hx5))
          have y0 := hx5.cell y0
          clear hx5 hv7 hvv
          have r0 := HX5.out.cell HR.out.1.1
          have r1 := HX5.out.cell HR.out.1.2.1
          have r2 := HX5.out.cell HR.out.1.2.2.1
          have r3 := HX5.out.cell HR.out.1.2.2.2.1
          have r4 := HX5.out.cell HR.out.1.2.2.2.2.1
          have r5 := HX5.out.cell HR.out.1.2.2.2.2.2
          have f0 := HFZ.out _ HX5.out 0
          have f1 := HFZ.out _ HX5.out 1
          have f2 := HFZ.out _ HX5.out 2
          have f3 := HFZ.out _ HX5.out 3
          have f4 := HFZ.out _ HX5.out 4
          have f5 := HFZ.out _ HX5.out 5
          have hc := set6_cells r0 r1 r2 r3 r4 r5 (.int .i64 yo) (.int .i64 (Ty.arr (Ty.uint 1) (last - yo)).kind) (.int .i64 (Ty.arr (Ty.uint 1) (last - yo)).size) (.int .i64 (Ty.arr (Ty.uint 1) (last - yo)).count) (.slice A7 n7 c7) (.slice B7 m7 e7)
          have hx := set6_ext HXW.out (Nat.le_refl _) (.int .i64 yo) (.int .i64 (Ty.arr (Ty.uint 1) (last - yo)).kind) (.int .i64 (Ty.arr (Ty.uint 1) (last - yo)).size) (.int .i64 (Ty.arr (Ty.uint 1) (last - yo)).count) (.slice A7 n7 c7) (.slice B7 m7 e7)
          obtain ⟨W6, hW6⟩ : ∃ W6, (((((w5.setCell ⟨w.heap.size, 0, none⟩ (.int .i64 yo)).setCell ⟨w.heap.size, 1, none⟩ (.int .i64 (Ty.arr (Ty.uint 1) (last - yo)).kind)).setCell ⟨w.heap.size, 2, none⟩ (.int .i64 (Ty.arr (Ty.uint 1) (last - yo)).size)).setCell ⟨w.heap.size, 3, none⟩ (.int .i64 (Ty.arr (Ty.uint 1) (last - yo)).count)).setCell ⟨w.heap.size, 4, none⟩ (.slice A7 n7 c7)).setCell ⟨w.heap.size, 5, none⟩ (.slice B7 m7 e7) = W6 := ⟨_, rfl⟩
          rw [hW6] at hc hx
          obtain ⟨t0, t1, t2, t3, t4, t5⟩ := hc
          have HX6 := hid hx
          have HW6 := hid hW6
          clear hx hW6
          refine rgK hK y0 (fun hSg48q2 => ?_)
          clear hK K
          refine rgT 12 ?_
          refine rgC 13 (fun K hK => ?_)
          go_simp
          refine rgK hK (set6_far _ _ _ _ _ _ (by exact hne2) y0) (fun hSg48q3 => ?_)
          clear hK K
          refine rgT 14 ?_
          refine wpAnyH_done (by kernel_rfl) ?_ _
          clear w1
          go_wp2
          rw [HW6.out]
          clear y0 y1 y2 y3 y4 y5 r0 r1 r2 r3 r4 r5
          refine bodyPost_ret (v := .tuple #[.agg #[.int .i64 yo, .int .i64 (Ty.arr (Ty.uint 1) (last - yo)).kind, .int .i64 (Ty.arr (Ty.uint 1) (last - yo)).size, .int .i64 (Ty.arr (Ty.uint 1) (last - yo)).count, .slice A7 n7 c7, .slice B7 m7 e7], .bool true]) (by simp [results, Tryz.results63, go_sem, t0, t1, t2, t3, t4, t5]) rfl ?_
          refine ⟨_, by rw [HF.out], ?_, HX6.out⟩
          rw [HF.out]
          refine ⟨A7, n7, c7, B7, m7, e7, rfl, HBY.out.1, ?_⟩
          have hw4 : W0.heap.size ≤ w4.heap.size := (HX.out.trans HX4.out).size
          have hw1 : w.heap.size < W0.heap.size := World.block_lt_of_cell? W0 ⟨w.heap.size, 0, none⟩ HR.out.1.1
          refine TyV.up (by have := HD.out; omega) (TyV.mono (S := fun b => w4.heap.size ≤ b) (fun b hb _ => .inr (by have hb' : w4.heap.size ≤ b := hb; omega)) (TyV.keep (fun b hb _ => ?_) HV7.out))
          have hb' : w4.heap.size ≤ b := hb
          rw [← HW6.out]
          exact set6_heap _ _ _ _ _ _ _ _ (by omega)
end Go.Proofs.YtacmjhcfjhpkeaaGreatDoor
