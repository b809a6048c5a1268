/- The law StructsFields. -/
import Derived.Test.YtacmjhcfjhpkeaaGreatDoorL34Em
import Derived.Test.YtacmjhcfjhpkeaaGreatDoorStQm
namespace Go.Proofs.YtacmjhcfjhpkeaaGreatDoor
open Go.RowKit Go.Deco
set_option linter.unusedSimpArgs false
set_option linter.unusedVariables false
theorem TyV.flds {d : Nat} {w : World} {S : Nat → Prop} {v : Value} {t : Ty} {k s q : Value} {A B : Option Addr} {n c m e : Nat} (h : TyV d w S v t) (hv : v = .agg #[k, s, q, .slice A n c, .slice B m e]) : Sl (fdR (tyR d)) w S (.slice B m e) t.fields := by
 obtain ⟨A', n', c', B', m', e', hv', -, h2, -⟩ := h
 rw [hv] at hv'
 injection hv' with hv'
 simp only [Array.mk.injEq, List.cons.injEq, Value.slice.injEq, and_true] at hv'
 obtain ⟨-, -, -, ⟨rfl, rfl, rfl⟩, rfl, rfl, rfl⟩ := hv'
 exact h2
def begB (l : List Acc) (o : Int) : Bool := l.any fun a => decide (a.off = o)
theorem begB_snoc {l : List Acc} {k : Nat} {x : Acc} (h : l[k]? = some x) (o : Int) : begB (l.take (k + 1)) o = (begB (l.take k) o || decide (x.off = o)) := by
 unfold begB
 rw [take_snoc' h]
 simp
theorem endAt_ok {l : List Acc} {t : Ty} (h : layoutA l = (t, 0)) {k : Nat} (hk : k ≤ t.fields.length) : 0 ≤ endAt t.fields k ∧ endAt t.fields k ≤ 65536 := by
 obtain ⟨_, _, _, hf⟩ := layout_fields h
 cases k with
 | zero => rw [endAt_zero]; omega
 | succ k =>
  obtain ⟨f, hf0⟩ : ∃ f, t.fields[k]? = some f := ⟨_, List.getElem?_eq_getElem (by omega)⟩
  have h1 := hf k f hf0
  have := endF_ge f
  rw [endAt_succ hf0]
  omega
set_option maxRecDepth 100000 in
set_option maxHeartbeats 4000000 in
theorem fldlaw_any (w : World) (ht : Tab10 w) (hg : TabAt w) (A : Option Addr) (n c : Nat) (l : List Acc) (hl : Sl accR w All (.slice A n c) l) : Calls Tryz.prog 7 #[.slice A n c] w (TBool w true) := by
 have HT := hid ht
 have HG := hid hg
 have HL := hid hl
 have HLN := hid hl.len
 clear ht hg hl
 by_cases h0 : (n : Int) > 40
 case pos =>
  have g0 : decide ((n : Int) > 40) = true := decide_eq_true h0
  have HX := hid (lex_any w HT.out HG.out)
  go_enter Tryz.func7, Tryz.ntmps7
  go_wp2_with fail
  refine HX.out.mono ?_
  rintro e w1 ⟨rfl, hx⟩
  have HX1 := hid hx
  clear hx
  go_wp2
  go_ret
  exact ⟨rfl, HX1.out⟩
 have g0 : decide ((n : Int) > 40) = false := decide_eq_false h0
 have hn : n ≤ 40 := by omega
 clear h0
 go_enter Tryz.func7, Tryz.ntmps7
 go_wp2_with fail
 refine (lprog_any w A n c l HL.out (by omega)).mono ?_
 rintro e w1 ⟨A1, c1, rfl, hs, hx⟩
 rw [← HLN.out] at hs ⊢
 have HSw1 := hid hs
 have HXw1 := hid hx
 clear hs hx
 have HC := hid (layout_any w1 A1 n c1 l HSw1.out)
 have HP := hid (fun t (h : layoutA l = (t, 0)) => layout_fields h)
 have HPE := hid (fun t (h : layoutA l = (t, 0)) k (hk : k ≤ t.fields.length) => endAt_ok h hk)
 obtain ⟨⟨t, er⟩, hR⟩ : ∃ R, layoutA l = R := ⟨_, rfl⟩
 rw [hR] at HC HP HPE
 clear hR
 go_wp2_with fail
 refine HC.out.mono ?_
 rintro e w2 ⟨vw2, rfl, hv, hx⟩
 have HTw2 := hid (TyV.all (t := t) hv)
 have HXw2 := hid hx
 clear hv hx
 obtain ⟨Aw2, nw2, cw2, Bw2, mw2, ew2, hv, -⟩ := HTw2.out
 subst hv
 simp only at *
 have HF2 := hid (TyV.flds HTw2.out rfl)
 go_upto_region 4 with fail
 obtain ⟨U2, hU2⟩ : ∃ U2, w2.alloc (.cells #[.int .i64 t.kind, .int .i64 t.size, .int .i64 t.count, .slice Aw2 nw2 cw2, .slice Bw2 mw2 ew2] 25) = U2 := ⟨_, rfl⟩
 rw [hU2]
 have HEU2 := hid (by rw [← hU2]; exact (Ext.refl w2).alloc _ : Ext w2 U2)
 have o0U2 : U2.cell? ⟨w2.heap.size, 0, none⟩ = some (.int .i64 t.kind) := by rw [← hU2]; simp [go_sem]
 have o1U2 : U2.cell? ⟨w2.heap.size, 1, none⟩ = some (.int .i64 t.size) := by rw [← hU2]; simp [go_sem]
 have o2U2 : U2.cell? ⟨w2.heap.size, 2, none⟩ = some (.int .i64 t.count) := by rw [← hU2]; simp [go_sem]
 have o3U2 : U2.cell? ⟨w2.heap.size, 3, none⟩ = some (.slice Aw2 nw2 cw2) := by rw [← hU2]; simp [go_sem]
 have o4U2 : U2.cell? ⟨w2.heap.size, 4, none⟩ = some (.slice Bw2 mw2 ew2) := by rw [← hU2]; simp [go_sem]
 have HOU2 := hid (fun W (hW : Ext U2 W) => And.intro (hW.cell o0U2) (And.intro (hW.cell o1U2) (And.intro (hW.cell o2U2) (And.intro (hW.cell o3U2) (hW.cell o4U2)))))
 clear hU2 o0U2 o1U2 o2U2 o3U2 o4U2
 have HX2 := hid (HXw1.out.trans (HXw2.out.trans HEU2.out))
 by_cases k1 : er = 0
 case neg =>
  have n1 : ((er : Int) != 0) = true := by simp; omega
  clear k1
  have HXLw9 := hid (lex_any U2 (HT.out.ext HX2.out) (HG.out.ext HX2.out))
  go_wp2_with fail
  refine HXLw9.out.mono ?_
  rintro e w9 ⟨rfl, hx⟩
  have HXw9 := hid (Ext.trans HX2.out hx)
  clear hx
  go_wp2
  go_ret
  exact ⟨rfl, HXw9.out⟩
 subst k1
 obtain ⟨hc0, hk0, h64, hfl⟩ := HP.out t rfl
 have hE := HPE.out t rfl
 have HFL := hid hfl
 have HEA := hid hE
 have HTC := hid (tcheck_any 4 U2 t _ (HTw2.out.ext HEU2.out))
 rw [hc0] at HTC
 have HFN := hid HF2.out.len
 clear hc0 HP HPE HC hE hfl
 obtain ⟨o0, o1, o2, o3, o4⟩ := HOU2.out U2 (Ext.refl _)
 go_wp2_with fail
 refine HTC.out.mono ?_
 rintro e w3 ⟨rfl, hx⟩
 have E3 := hid (HEU2.out.trans hx)
 have X3 := hid hx
 clear hx o0 o1 o2 o3 o4
 obtain ⟨o0, o1, o2, o3, o4⟩ := HOU2.out w3 X3.out
 have HKD : Hid (t.kind = 5 ∨ t.kind = 4) := hid hk0
 obtain ⟨kd, hkd⟩ : ∃ kd, t.kind = kd := ⟨_, rfl⟩
 rw [hkd] at o0 HKD hk0
 rcases hk0 with rfl | rfl
 case inl =>
  have hm64 : mw2 ≤ 64 := by rw [HFN.out]; exact h64
  go_upto_region 8 with fail
  clear o0 o1 o2 o3 o4
  go_wp2_with fail
  go_loopw [6, 5] (fun i a wr => ∃ (k : Nat), k ≤ mw2 ∧ i = .int .i64 k ∧ a = .int .i64 (endAt t.fields k) ∧ Hid (Ext w3 wr)) (fun i _ _ => mw2 - (intOf i).toNat)
  case atStart => exact ⟨0, by omega, rfl, by rw [endAt_zero], hid (Ext.refl _)⟩
  case round =>
   obtain ⟨k, hk, rfl, rfl, HX⟩ := hrel
   have hV : ∃ V, V = wr := ⟨_, rfl⟩
   obtain ⟨V, rfl⟩ := hV
   obtain ⟨o0, o1, o2, o3, o4⟩ := HOU2.out V (X3.out.trans HX.out)
   by_cases h1 : k < mw2
   ·have hkI : (k : Int) < (mw2 : Int) := by omega
    obtain ⟨f, hf⟩ : ∃ f, t.fields[k]? = some f := ⟨_, List.getElem?_eq_getElem (by have := HFN.out; omega)⟩
    have HFF := hid (HFL.out k f hf)
    have hEk := HEA.out k (by have := HFN.out; omega)
    have HES := hid (endAt_succ hf)
    obtain ⟨d', b, off, A1, n1, c1', B1, m1, e1, hd, rfl, hv1, hi1, x0, x1, x2, x3, x4, x5⟩ := HF2.out.fd_at hf
    obtain rfl : d' = 3 := by omega
    clear hd
    have HV1 := hid hv1
    have HFC := hid (fun W (hW : Ext w2 W) => And.intro (hW.cell x0) (And.intro (hW.cell x1) (And.intro (hW.cell x2) (And.intro (hW.cell x3) (And.intro (hW.cell x4) (hW.cell x5))))))
    have HXR := hid (E3.out.trans HX.out)
    have HO3 := hid (fun W (hW : Ext V W) => HOU2.out W ((X3.out.trans HX.out).trans hW))
    clear hf x0 x1 x2 x3 x4 x5 hv1
    go_wp2_with fail
    go_loopw [8, 7] (fun j bg wr => ∃ (q : Nat), q ≤ n ∧ j = .int .i64 q ∧ bg = .bool (begB (l.take q) f.1) ∧ Hid (Ext V wr)) (fun j _ _ => n - (intOf j).toNat)
    case atStart => exact ⟨0, by omega, rfl, rfl, hid (Ext.refl _)⟩
    case round =>
     obtain ⟨q, hq, rfl, rfl, HQ⟩ := hrel
     obtain ⟨o0, o1, o2, o3, o4⟩ := HO3.out wr HQ.out
     obtain ⟨x0, x1, x2, x3, x4, x5⟩ := HFC.out wr (HXR.out.trans HQ.out)
     by_cases h2 : q < n
     ·have hqI : (q : Int) < (n : Int) := by omega
      obtain ⟨y, hy⟩ : ∃ y, l[q]? = some y := ⟨_, List.getElem?_eq_getElem (by have := HLN.out; omega)⟩
      obtain ⟨b2, off2, rfl, y0, y1, y2, y3, -, -, -⟩ := (HL.out.ext (HX2.out.trans (X3.out.trans (HX.out.trans HQ.out)))).acc_at hy
      have HBS := hid (begB_snoc hy f.1)
      obtain ⟨bb, hbb⟩ : ∃ bb, begB (l.take q) f.1 = bb := ⟨_, rfl⟩
      rw [hbb] at HBS ⊢
      clear hy hbb
      cases bb with
      | true =>
       have HB2 : Hid (begB (l.take (q + 1)) f.1 = true) := hid (by rw [HBS.out]; rfl)
       go_wp2_with fail
       refine wp_region_held_drew (S := (fun w' => w'.cell? ⟨w2.heap.size, 4, none⟩ = some (.slice (some ⟨b, off, none⟩) mw2 ew2) ∧ w'.cell? ⟨b, off + k * 6, none⟩ = some (.int .i64 f.1) ∧ w'.cell? ⟨b2, off2 + q * 4 + 1, none⟩ = some (.int .i64 y.off))) (by kernel_rfl) ⟨o4, x0, y1⟩ (fun hSg97q0 => ?_)
       refine rgT 0 ?_
       refine rgT 1 ?_
       refine rgU 2 ?_
       refine rgU 3 ?_
       refine rgU 4 ?_
       refine rgU 5 ?_
       refine rgU 6 ?_
       refine rgU 7 ?_
       refine rgU 8 ?_
       refine rgU 9 ?_
       refine rgU 10 ?_
       refine rgU 11 ?_
       refine rgU 12 ?_
       refine rgU 13 ?_
       refine rgT 14 ?_
       refine rgT 15 ?_
       refine wpAnyH_done (by kernel_rfl) ?_ _
       go_wp2
       first
        | go_roundw
        | refine ⟨?rel, ?measure⟩
       case rel => exact ⟨q + 1, by omega, by go_num, by rw [HB2.out], hid HQ.out.drew⟩
       case measure => simp [intOf]; omega
      | false =>
       have HB2 : Hid (begB (l.take (q + 1)) f.1 = decide (y.off = f.1)) := hid (by rw [HBS.out]; rfl)
       go_wp2_with fail
       refine wp_region_held_drew (S := (fun w' => w'.cell? ⟨w2.heap.size, 4, none⟩ = some (.slice (some ⟨b, off, none⟩) mw2 ew2) ∧ w'.cell? ⟨b, off + k * 6, none⟩ = some (.int .i64 f.1) ∧ w'.cell? ⟨b2, off2 + q * 4 + 1, none⟩ = some (.int .i64 y.off))) (by kernel_rfl) ⟨o4, x0, y1⟩ (fun hSg98q0 => ?_)
       refine rgT 0 ?_
       refine rgT 1 ?_
       refine rgT 2 ?_
       refine rgT 3 ?_
       refine rgT 4 ?_
       refine rgT 5 ?_
       refine rgT 6 ?_
       refine rgT 7 ?_
       refine rgT 8 ?_
       refine rgT 9 ?_
       refine rgT 10 ?_
       refine rgT 11 ?_
       refine rgT 12 ?_
       refine rgT 13 ?_
       refine rgT 14 ?_
       refine rgT 15 ?_
       refine wpAnyH_done (by kernel_rfl) ?_ _
       go_wp2
       first
        | go_roundw
        | refine ⟨?rel, ?measure⟩
       case rel => exact ⟨q + 1, by omega, by go_num, by rw [HB2.out]; first | rfl | simp, hid HQ.out.drew⟩
       case measure => simp [intOf]; omega
     ·have hqI : ¬ (q : Int) < (n : Int) := by omega
      obtain rfl : q = n := by omega
      have hbt : begB (l.take q) f.1 = true := by
       rw [List.take_of_length_le (by have := HLN.out; omega)]
       obtain ⟨a, ha, e⟩ := HFF.out.2.2.2
       exact List.any_eq_true.2 ⟨a, ha, by rw [decide_eq_true_eq]; exact e⟩
      rw [hbt]
      clear hbt
      obtain ⟨ea, hea⟩ : ∃ ea, endAt t.fields k = ea := ⟨_, rfl⟩
      rw [hea] at hEk
      have hle := HFF.out.1
      rw [hea] at hle
      have gl : decide (f.1 < ea) = false := decide_eq_false (by omega)
      have HSC := hid (fun W (hW : Ext w2 W) => sizeof_any 3 W f.2 _ (HV1.out.ext hW).all)
      have HEF : Hid (endF f = f.1 + sizeT f.2) := hid rfl
      have hb1 := HFF.out.2.1
      have hb2 := HFF.out.2.2.1
      have hb3 := endF_ge f
      rw [HEF.out] at hb1 hb3
      obtain ⟨sz, hsz⟩ : ∃ sz, sizeT f.2 = sz := ⟨_, rfl⟩
      rw [hsz] at HSC HEF hb1 hb3
      have ws : IntKind.i64.wrap (f.1 + sz) = f.1 + sz := IntWalk.i64_in _ (by omega)
      clear hsz hle
      go_upto_region 19 with fail
      refine wp_region_held_drew (S := (fun w' => w'.cell? ⟨w2.heap.size, 4, none⟩ = some (.slice (some ⟨b, off, none⟩) mw2 ew2) ∧ w'.cell? ⟨b, off + k * 6, none⟩ = some (.int .i64 f.1) ∧ w'.cell? ⟨b, off + k * 6 + 1, none⟩ = some (.int .i64 f.2.kind) ∧ w'.cell? ⟨b, off + k * 6 + 2, none⟩ = some (.int .i64 f.2.size) ∧ w'.cell? ⟨b, off + k * 6 + 3, none⟩ = some (.int .i64 f.2.count) ∧ w'.cell? ⟨b, off + k * 6 + 4, none⟩ = some (.slice A1 n1 c1') ∧ w'.cell? ⟨b, off + k * 6 + 5, none⟩ = some (.slice B1 m1 e1))) (by kernel_rfl) ⟨o4, x0, x1, x2, x3, x4, x5⟩ (fun hSg99q0 => ?_)
      refine rgT 0 ?_
      refine rgT 1 ?_
      refine rgT 2 ?_
      refine rgT 3 ?_
      refine rgT 4 ?_
      refine rgT 5 ?_
      refine rgT 6 ?_
      refine rgT 7 ?_
      refine rgT 8 ?_
      refine rgT 9 ?_
      refine rgT 10 ?_
      refine rgT 11 ?_
      refine rgC 12 (fun K hK => ?_)
      go_simp
      go_at_call 23
      refine (HSC.out _ ((HXR.out.trans HQ.out).trans (Ext.refl wr).drew)).mono ?_
      rintro e w5 ⟨rfl, hx⟩
      have HX5 := hid hx.drew_left
      clear hx
      refine hK.out _ _ ⟨HX5.out.cell o4, HX5.out.cell x0, HX5.out.cell x1, HX5.out.cell x2, HX5.out.cell x3, HX5.out.cell x4, HX5.out.cell x5⟩ (fun hSg99q1 => ?_)
      clear hK K
      try simp only [Act.put, List.setIfInBounds_toArray, List.set_cons_zero, List.set_cons_succ]
      refine rgT 13 ?_
      refine rgT 14 ?_
      refine wpAnyH_done (by kernel_rfl) ?_ _
      go_wp2
      first
       | go_roundw
       | refine ⟨?rel, ?measure⟩
      case rel => exact ⟨k + 1, by omega, by go_num, by rw [HES.out, HEF.out], hid (HX.out.trans (HQ.out.trans HX5.out))⟩
      case measure => simp [intOf]; omega
   ·have hkI : ¬ (k : Int) < (mw2 : Int) := by omega
    clear o0 o1 o2 o3
    go_upto_region 20 with fail
    clear o4
    have HXLw9 := hid (lex_any V (HT.out.ext (HX2.out.trans (X3.out.trans HX.out))) (HG.out.ext (HX2.out.trans (X3.out.trans HX.out))))
    go_wp2_with fail
    refine HXLw9.out.mono ?_
    rintro e w9 ⟨rfl, hx⟩
    have HXw9 := hid (Ext.trans (HX2.out.trans (X3.out.trans HX.out)) hx)
    clear hx
    go_wp2
    go_ret
    exact ⟨rfl, HXw9.out⟩
 case inr =>
  have hm64 : mw2 ≤ 64 := by rw [HFN.out]; exact h64
  go_upto_region 8 with fail
  clear o0 o1 o2 o3 o4
  go_wp2_with fail
  go_loopw [6, 5] (fun i a wr => ∃ (k : Nat), k ≤ mw2 ∧ i = .int .i64 k ∧ a = .int .i64 (endAt t.fields k) ∧ Hid (Ext w3 wr)) (fun i _ _ => mw2 - (intOf i).toNat)
  case atStart => exact ⟨0, by omega, rfl, by rw [endAt_zero], hid (Ext.refl _)⟩
  case round =>
   obtain ⟨k, hk, rfl, rfl, HX⟩ := hrel
   have hV : ∃ V, V = wr := ⟨_, rfl⟩
   obtain ⟨V, rfl⟩ := hV
   obtain ⟨o0, o1, o2, o3, o4⟩ := HOU2.out V (X3.out.trans HX.out)
   by_cases h1 : k < mw2
   ·have hkI : (k : Int) < (mw2 : Int) := by omega
    obtain ⟨f, hf⟩ : ∃ f, t.fields[k]? = some f := ⟨_, List.getElem?_eq_getElem (by have := HFN.out; omega)⟩
    have HFF := hid (HFL.out k f hf)
    have hEk := HEA.out k (by have := HFN.out; omega)
    have HES := hid (endAt_succ hf)
    obtain ⟨d', b, off, A1, n1, c1', B1, m1, e1, hd, rfl, hv1, hi1, x0, x1, x2, x3, x4, x5⟩ := HF2.out.fd_at hf
    obtain rfl : d' = 3 := by omega
    clear hd
    have HV1 := hid hv1
    have HFC := hid (fun W (hW : Ext w2 W) => And.intro (hW.cell x0) (And.intro (hW.cell x1) (And.intro (hW.cell x2) (And.intro (hW.cell x3) (And.intro (hW.cell x4) (hW.cell x5))))))
    have HXR := hid (E3.out.trans HX.out)
    have HO3 := hid (fun W (hW : Ext V W) => HOU2.out W ((X3.out.trans HX.out).trans hW))
    clear hf x0 x1 x2 x3 x4 x5 hv1
    go_wp2_with fail
    go_loopw [8, 7] (fun j bg wr => ∃ (q : Nat), q ≤ n ∧ j = .int .i64 q ∧ bg = .bool (begB (l.take q) f.1) ∧ Hid (Ext V wr)) (fun j _ _ => n - (intOf j).toNat)
    case atStart => exact ⟨0, by omega, rfl, rfl, hid (Ext.refl _)⟩
    case round =>
     obtain ⟨q, hq, rfl, rfl, HQ⟩ := hrel
     obtain ⟨o0, o1, o2, o3, o4⟩ := HO3.out wr HQ.out
     obtain ⟨x0, x1, x2, x3, x4, x5⟩ := HFC.out wr (HXR.out.trans HQ.out)
     by_cases h2 : q < n
     ·have hqI : (q : Int) < (n : Int) := by omega
      obtain ⟨y, hy⟩ : ∃ y, l[q]? = some y := ⟨_, List.getElem?_eq_getElem (by have := HLN.out; omega)⟩
      obtain ⟨b2, off2, rfl, y0, y1, y2, y3, -, -, -⟩ := (HL.out.ext (HX2.out.trans (X3.out.trans (HX.out.trans HQ.out)))).acc_at hy
      have HBS := hid (begB_snoc hy f.1)
      obtain ⟨bb, hbb⟩ : ∃ bb, begB (l.take q) f.1 = bb := ⟨_, rfl⟩
      rw [hbb] at HBS ⊢
      clear hy hbb
      cases bb with
      | true =>
       have HB2 : Hid (begB (l.take (q + 1)) f.1 = true) := hid (by rw [HBS.out]; rfl)
       go_wp2_with fail
       refine wp_region_held_drew (S := (fun w' => w'.cell? ⟨w2.heap.size, 4, none⟩ = some (.slice (some ⟨b, off, none⟩) mw2 ew2) ∧ w'.cell? ⟨b, off + k * 6, none⟩ = some (.int .i64 f.1) ∧ w'.cell? ⟨b2, off2 + q * 4 + 1, none⟩ = some (.int .i64 y.off))) (by kernel_rfl) ⟨o4, x0, y1⟩ (fun hSg100q0 => ?_)
       refine rgT 0 ?_
       refine rgT 1 ?_
       refine rgU 2 ?_
       refine rgU 3 ?_
       refine rgU 4 ?_
       refine rgU 5 ?_
       refine rgU 6 ?_
       refine rgU 7 ?_
       refine rgU 8 ?_
       refine rgU 9 ?_
       refine rgU 10 ?_
       refine rgU 11 ?_
       refine rgU 12 ?_
       refine rgU 13 ?_
       refine rgT 14 ?_
       refine rgT 15 ?_
       refine wpAnyH_done (by kernel_rfl) ?_ _
       go_wp2
       first
        | go_roundw
        | refine ⟨?rel, ?measure⟩
       case rel => exact ⟨q + 1, by omega, by go_num, by rw [HB2.out], hid HQ.out.drew⟩
       case measure => simp [intOf]; omega
      | false =>
       have HB2 : Hid (begB (l.take (q + 1)) f.1 = decide (y.off = f.1)) := hid (by rw [HBS.out]; rfl)
       go_wp2_with fail
       refine wp_region_held_drew (S := (fun w' => w'.cell? ⟨w2.heap.size, 4, none⟩ = some (.slice (some ⟨b, off, none⟩) mw2 ew2) ∧ w'.cell? ⟨b, off + k * 6, none⟩ = some (.int .i64 f.1) ∧ w'.cell? ⟨b2, off2 + q * 4 + 1, none⟩ = some (.int .i64 y.off))) (by kernel_rfl) ⟨o4, x0, y1⟩ (fun hSg101q0 => ?_)
       refine rgT 0 ?_
       refine rgT 1 ?_
       refine rgT 2 ?_
       refine rgT 3 ?_
       refine rgT 4 ?_
       refine rgT 5 ?_
       refine rgT 6 ?_
       refine rgT 7 ?_
       refine rgT 8 ?_
       refine rgT 9 ?_
       refine rgT 10 ?_
       refine rgT 11 ?_
       refine rgT 12 ?_
       refine rgT 13 ?_
       refine rgT 14 ?_
       refine rgT 15 ?_
       refine wpAnyH_done (by kernel_rfl) ?_ _
       go_wp2
       first
        | go_roundw
        | refine ⟨?rel, ?measure⟩
       case rel => exact ⟨q + 1, by omega, by go_num, by rw [HB2.out]; first | rfl | simp, hid HQ.out.drew⟩
       case measure => simp [intOf]; omega
     ·have hqI : ¬ (q : Int) < (n : Int) := by omega
      obtain rfl : q = n := by omega
      have hbt : begB (l.take q) f.1 = true := by
       rw [List.take_of_length_le (by have := HLN.out; omega)]
       obtain ⟨a, ha, e⟩ := HFF.out.2.2.2
       exact List.any_eq_true.2 ⟨a, ha, by rw [decide_eq_true_eq]; exact e⟩
      rw [hbt]
      clear hbt
      obtain ⟨ea, hea⟩ : ∃ ea, endAt t.fields k = ea := ⟨_, rfl⟩
      rw [hea] at hEk
      have hle := HFF.out.1
      rw [hea] at hle
      have gl : decide (f.1 < ea) = false := decide_eq_false (by omega)
      have HSC := hid (fun W (hW : Ext w2 W) => sizeof_any 3 W f.2 _ (HV1.out.ext hW).all)
      have HEF : Hid (endF f = f.1 + sizeT f.2) := hid rfl
      have hb1 := HFF.out.2.1
      have hb2 := HFF.out.2.2.1
      have hb3 := endF_ge f
      rw [HEF.out] at hb1 hb3
      obtain ⟨sz, hsz⟩ : ∃ sz, sizeT f.2 = sz := ⟨_, rfl⟩
      rw [hsz] at HSC HEF hb1 hb3
      have ws : IntKind.i64.wrap (f.1 + sz) = f.1 + sz := IntWalk.i64_in _ (by omega)
      clear hsz hle
      go_upto_region 19 with fail
      refine wp_region_held_drew (S := (fun w' => w'.cell? ⟨w2.heap.size, 4, none⟩ = some (.slice (some ⟨b, off, none⟩) mw2 ew2) ∧ w'.cell? ⟨b, off + k * 6, none⟩ = some (.int .i64 f.1) ∧ w'.cell? ⟨b, off + k * 6 + 1, none⟩ = some (.int .i64 f.2.kind) ∧ w'.cell? ⟨b, off + k * 6 + 2, none⟩ = some (.int .i64 f.2.size) ∧ w'.cell? ⟨b, off + k * 6 + 3, none⟩ = some (.int .i64 f.2.count) ∧ w'.cell? ⟨b, off + k * 6 + 4, none⟩ = some (.slice A1 n1 c1') ∧ w'.cell? ⟨b, off + k * 6 + 5, none⟩ = some (.slice B1 m1 e1))) (by kernel_rfl) ⟨o4, x0, x1, x2, x3, x4, x5⟩ (fun hSg102q0 => ?_)
      refine rgT 0 ?_
      refine rgT 1 ?_
      refine rgT 2 ?_
      refine rgT 3 ?_
      refine rgT 4 ?_
      refine rgT 5 ?_
      refine rgT 6 ?_
      refine rgT 7 ?_
      refine rgT 8 ?_
      refine rgT 9 ?_
      refine rgT 10 ?_
      refine rgT 11 ?_
      refine rgC 12 (fun K hK => ?_)
      go_simp
      go_at_call 23
      refine (HSC.out _ ((HXR.out.trans HQ.out).trans (Ext.refl wr).drew)).mono ?_
      rintro e w5 ⟨rfl, hx⟩
      have HX5 := hid hx.drew_left
      clear hx
      refine hK.out _ _ ⟨HX5.out.cell o4, HX5.out.cell x0, HX5.out.cell x1, HX5.out.cell x2, HX5.out.cell x3, HX5.out.cell x4, HX5.out.cell x5⟩ (fun hSg102q1 => ?_)
      clear hK K
      try simp only [Act.put, List.setIfInBounds_toArray, List.set_cons_zero, List.set_cons_succ]
      refine rgT 13 ?_
      refine rgT 14 ?_
      refine wpAnyH_done (by kernel_rfl) ?_ _
      go_wp2
      first
       | go_roundw
       | refine ⟨?rel, ?measure⟩
      case rel => exact ⟨k + 1, by omega, by go_num, by rw [HES.out, HEF.out], hid (HX.out.trans (HQ.out.trans HX5.out))⟩
      case measure => simp [intOf]; omega
   ·have hkI : ¬ (k : Int) < (mw2 : Int) := by omega
    clear o0 o1 o2 o3
    go_upto_region 20 with fail
    clear o4
    have HXLw9 := hid (lex_any V (HT.out.ext (HX2.out.trans (X3.out.trans HX.out))) (HG.out.ext (HX2.out.trans (X3.out.trans HX.out))))
    go_wp2_with fail
    refine HXLw9.out.mono ?_
    rintro e w9 ⟨rfl, hx⟩
    have HXw9 := hid (Ext.trans (HX2.out.trans (X3.out.trans HX.out)) hx)
    clear hx
    go_wp2
    go_ret
    exact ⟨rfl, HXw9.out⟩
end Go.Proofs.YtacmjhcfjhpkeaaGreatDoor
