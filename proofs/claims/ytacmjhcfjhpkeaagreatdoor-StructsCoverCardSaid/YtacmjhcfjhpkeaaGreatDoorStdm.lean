/- structs: row. structs: arrange. -/
import Derived.Test.YtacmjhcfjhpkeaaGreatDoorStam
import Derived.Test.YtacmjhcfjhpkeaaGreatDoorPlbm
import Derived.Test.YtacmjhcfjhpkeaaGreatDoorStxm
import Derived.Test.YtacmjhcfjhpkeaaGreatDoorStrCm
namespace Go.Proofs.YtacmjhcfjhpkeaaGreatDoor
open Go.RowKit Go.Deco
set_option linter.unusedSimpArgs false
set_option linter.unusedVariables false

set_option maxRecDepth 100000 in
set_option maxHeartbeats 4000000 in
theorem row_any (d : Nat) (w : World) (A : Option Addr) (n c : Nat) (l : List (Int × Ty)) (hl : Sl (fdR (tyR d)) w All (.slice A n c) l) (hn : n ≤ 100000) (hoff : ∀ f ∈ l, 0 ≤ f.1 ∧ f.1 ≤ 131072) :
  Calls Tryz.prog 79 #[.slice A n c] w (TBool w (rowF l)) := by
 have hln := hl.len
 obtain ⟨hnc, hcm⟩ := hl.cap
 obtain ⟨z, hz⟩ : ∃ z, rowF l = z := ⟨_, rfl⟩
 rw [hz]
 have HZ := hid hz
 have HLN := hid hln
 have HL := hid hl
 have HOFF := hid hoff
 clear hln hl hoff hz
 go_enter Tryz.func79, Tryz.ntmps79
 go_wp2
 go_loopw [8, 3] (fun i s wr => ∃ (k : Nat) (at_ : Int), k ≤ n ∧ 0 ≤ at_ ∧ at_ ≤ 262144 ∧ i = .int .i64 k ∧ s = .int .i64 at_ ∧ Hid (rowFrom (headF l).2 0 l = rowFrom (headF l).2 at_ (l.drop k)) ∧ Hid (Ext w wr)) (fun i _ _ => n - (intOf i).toNat)
 case atStart => exact ⟨0, 0, by omega, by omega, by omega, rfl, rfl, hid rfl, hid (Ext.refl _)⟩
 case round =>
  obtain ⟨k, at_, hk, ha0, ha1, rfl, rfl, HIN, HX⟩ := hrel
  by_cases h1 : k < n
  ·obtain ⟨x, hx⟩ : ∃ x, l[k]? = some x := ⟨_, List.getElem?_eq_getElem (by have := HLN.out; omega)⟩
   obtain ⟨y, hy⟩ : ∃ y, l[0]? = some y := ⟨_, List.getElem?_eq_getElem (by have := HLN.out; omega)⟩
   have hyh : headF l = y := by
    cases l with
    | nil => cases hy
    | cons a l => simpa [headF] using hy
   obtain ⟨d', b, off, A1, n1, c1, B1, m1, e1, hd, rfl, hv1, hi1, x0, x1, x2, x3, x4, x5⟩ := (HL.out.ext HX.out).fd_at hx
   obtain ⟨d2, b', off', A2, n2, c2, B2, m2, e2, hd2, hbo, hv2, hi2, y0, y1, y2, y3, y4, y5⟩ := (HL.out.ext HX.out).fd_at hy
   obtain ⟨rfl, rfl⟩ : b = b' ∧ off = off' := by simpa using hbo
   obtain rfl : d' = d2 := by omega
   rw [Nat.zero_mul, Nat.add_zero] at y0 y1 y2 y3 y4 y5
   have hxo := HOFF.out x (List.mem_of_getElem? hx)
   have hst : rowFrom (headF l).2 at_ (l.drop k) = (decide (x.1 = at_) && sameT x.2 y.2 && rowFrom (headF l).2 (endF x) (l.drop (k + 1))) := by rw [drop_cons' hx, rowFrom, hyh]
   have HEC := hid (fun (w' : World) (hw : Ext wr w') => end_any d' w' x _ (FdV.ext ⟨A1, n1, c1, B1, m1, e1, rfl, hi1, hv1⟩ hw) hxo.1 hxo.2)
   have HSC := hid (fun (w' : World) (hw : Ext wr w') => same_any d' w' x.2 y.2 _ _ (hv1.ext hw) (hv2.ext hw))
   have hen0 := endF_ge x
   have hen1 : endF x ≤ 262144 := by have := sizeT_le x.2; unfold endF; omega
   obtain ⟨en, hen⟩ : ∃ en, endF x = en := ⟨_, rfl⟩
   rw [hen] at HEC hen0 hen1 hst
   have hen2 : 0 ≤ en := by omega
   obtain ⟨r, hr⟩ : ∃ r, sameT x.2 y.2 = r := ⟨_, rfl⟩
   rw [hr] at HSC hst
   have HST := hid hst
   obtain ⟨xo, xt⟩ := x
   obtain ⟨yo, yt⟩ := y
   simp only at x0 x1 x2 x3 x4 x5 y0 y1 y2 y3 y4 y5 HST HEC HSC
   obtain ⟨W2, hW2⟩ : ∃ W2, wr.alloc (.cells #[.int .i64 xo, .int .i64 xt.kind, .int .i64 xt.size, .int .i64 xt.count, .slice A1 n1 c1, .slice B1 m1 e1] 48) = W2 := ⟨_, rfl⟩
   have hE2 : Ext wr W2 := by rw [← hW2]; exact (Ext.refl _).alloc _
   have q0 : W2.cell? ⟨wr.heap.size, 0, none⟩ = some (.int .i64 xo) := by rw [← hW2]; simp [go_sem]
   have q1 : W2.cell? ⟨wr.heap.size, 1, none⟩ = some (.int .i64 xt.kind) := by rw [← hW2]; simp [go_sem]
   have q2 : W2.cell? ⟨wr.heap.size, 2, none⟩ = some (.int .i64 xt.size) := by rw [← hW2]; simp [go_sem]
   have q3 : W2.cell? ⟨wr.heap.size, 3, none⟩ = some (.int .i64 xt.count) := by rw [← hW2]; simp [go_sem]
   have q4 : W2.cell? ⟨wr.heap.size, 4, none⟩ = some (.slice A1 n1 c1) := by rw [← hW2]; simp [go_sem]
   have q5 : W2.cell? ⟨wr.heap.size, 5, none⟩ = some (.slice B1 m1 e1) := by rw [← hW2]; simp [go_sem]
   have y0 := hE2.cell y0
   have y1 := hE2.cell y1
   have y2 := hE2.cell y2
   have y3 := hE2.cell y3
   have y4 := hE2.cell y4
   have y5 := hE2.cell y5
   have HE2 := hid hE2
   have hn0 : 0 < n := by omega
   have hn1 : (0 : Int) < (n : Int) := by omega
   clear hbo hd hd2 hv1 hv2 hi1 hi2 hx hy hxo hen hen0 hE2 hyh hst hr
   by_cases ho : xo = at_
   ·subst ho
    have g1 : (xo != xo) = false := by simp
    go_wp2_with fail
    clear hW2 x0 x1 x2 x3 x4 x5
    refine wp_region_held_drew (S := (fun w' => w'.cell? ⟨wr.heap.size, 0, none⟩ = some (.int .i64 xo) ∧ w'.cell? ⟨wr.heap.size, 1, none⟩ = some (.int .i64 xt.kind) ∧ w'.cell? ⟨wr.heap.size, 2, none⟩ = some (.int .i64 xt.size) ∧ w'.cell? ⟨wr.heap.size, 3, none⟩ = some (.int .i64 xt.count) ∧ w'.cell? ⟨wr.heap.size, 4, none⟩ = some (.slice A1 n1 c1) ∧ w'.cell? ⟨wr.heap.size, 5, none⟩ = some (.slice B1 m1 e1) ∧ w'.cell? ⟨b, off + 1, none⟩ = some (.int .i64 yt.kind) ∧ w'.cell? ⟨b, off + 2, none⟩ = some (.int .i64 yt.size) ∧ w'.cell? ⟨b, off + 3, none⟩ = some (.int .i64 yt.count) ∧ w'.cell? ⟨b, off + 4, none⟩ = some (.slice A2 n2 c2) ∧ w'.cell? ⟨b, off + 5, none⟩ = some (.slice B2 m2 e2))) (by kernel_rfl) ⟨q0, q1, q2, q3, q4, q5, y1, y2, y3, y4, y5⟩ (fun hSg61q0 => ?_)
    refine rgT6 0 1 2 3 4 5 ?_
    refine rgT4 6 7 8 9 ?_
    refine rgT 10 ?_
    refine rgC 11 (fun K hK => ?_)
    go_simp
    go_at_call 86
    refine (HSC.out _ HE2.out.drew).mono ?_
    rintro e w5 ⟨rfl, hx5⟩
    have HX5 := hid hx5.drew_left
    clear hx5
    refine rgK hK ⟨HX5.out.cell q0, HX5.out.cell q1, HX5.out.cell q2, HX5.out.cell q3, HX5.out.cell q4, HX5.out.cell q5, HX5.out.cell y1, HX5.out.cell y2, HX5.out.cell y3, HX5.out.cell y4, HX5.out.cell y5⟩ (fun hSg61q1 => ?_)
    clear hK K
    refine rgT2 12 13 ?_
    refine wpAnyH_done (by kernel_rfl) ?_ _
    have q0 := HX5.out.cell q0
    have q1 := HX5.out.cell q1
    have q2 := HX5.out.cell q2
    have q3 := HX5.out.cell q3
    have q4 := HX5.out.cell q4
    have q5 := HX5.out.cell q5
    clear y0 y1 y2 y3 y4 y5
    cases r with
    | false =>
     obtain rfl : z = false := by rw [← HZ.out, rowF, HIN.out, HST.out]; simp
     go_wp2
     go_ret
     exact ⟨rfl, HX.out.trans (HE2.out.trans HX5.out)⟩
    | true =>
     go_wp2_with fail
     refine (HEC.out _ (HE2.out.trans HX5.out)).mono ?_
     rintro e w6 ⟨rfl, hx6⟩
     have HX6 := hid (HX.out.trans (HE2.out.trans (HX5.out.trans hx6)))
     clear hx6 q0 q1 q2 q3 q4 q5
     go_wp2
     first
      | go_roundw
      | refine ⟨?rel, ?measure⟩
     case rel => exact ⟨k + 1, en, by omega, by omega, by omega, by go_num, rfl, hid (by rw [HIN.out, HST.out]; simp), HX6⟩
     case measure => simp [intOf]; omega
   ·have g1 : (xo != at_) = true := by simp [ho]
    obtain rfl : z = false := by rw [← HZ.out, rowF, HIN.out, HST.out]; simp [ho]
    clear ho
    go_wp2_with fail
    clear hW2 x0 x1 x2 x3 x4 x5
    refine wp_region_held_drew (S := (fun w' => w'.cell? ⟨wr.heap.size, 0, none⟩ = some (.int .i64 xo))) (by kernel_rfl) q0 (fun hSg62q0 => ?_)
    refine rgT4 0 1 2 3 ?_
    refine rgT 4 ?_
    refine rgU4 5 6 7 8 ?_
    refine rgU2 9 10 ?_
    refine rgC 11 (fun K hK => ?_)
    refine cast (if_neg (fun h => Bool.noConfusion (show false = true from h))).symm ?_
    refine rgK hK (by assumption) (fun hSg62q1 => ?_)
    clear hK K
    refine rgU 12 ?_
    refine rgT 13 ?_
    refine wpAnyH_done (by kernel_rfl) ?_ _
    go_wp2
    go_ret
    exact ⟨rfl, HX.out.trans HE2.out.drew⟩
  ·obtain rfl : k = n := by omega
   have hfull : rowFrom (headF l).2 0 l = true := by rw [HIN.out, List.drop_eq_nil_of_le (by have := HLN.out; omega)]; rfl
   have hz2 : z = decide (1 < l.length) := by rw [← HZ.out, rowF, hfull, Bool.and_true]
   by_cases h2 : 1 < k
   ·have d1 : decide ((k : Int) > 1) = true := decide_eq_true (by omega)
    obtain rfl : z = true := by rw [hz2]; exact decide_eq_true (by have := HLN.out; omega)
    clear hz2 hfull
    go_wp2
    go_ret
    exact ⟨rfl, HX.out⟩
   ·have d1 : decide ((k : Int) > 1) = false := decide_eq_false (by omega)
    obtain rfl : z = false := by rw [hz2]; exact decide_eq_false (by have := HLN.out; omega)
    clear hz2 hfull
    go_wp2
    go_ret
    exact ⟨rfl, HX.out⟩
end Go.Proofs.YtacmjhcfjhpkeaaGreatDoor

namespace Go.Proofs.YtacmjhcfjhpkeaaGreatDoor
open Go.RowKit Go.Deco
set_option linter.unusedSimpArgs false
set_option linter.unusedVariables false

/-- A type and an error. -/
def TyErr (d : Nat) (T : Nat → Prop) (w : World) (r : Ty × Nat) (e : Ending) (w' : World) : Prop := ∃ v, e = .returned (.tuple #[v, .int .i64 (r.2 : Nat)]) ∧ TyV d w' (fun b => T b ∨ w.heap.size ≤ b) v r.1 ∧ Ext w w'
theorem flds_all {p : List (Int × Ty)} : (groupsF p).map (fun g => (fieldG g).1) = fieldsF p := rfl
theorem fieldG_off {g : List (Int × Ty)} (hne : g ≠ []) : ∃ x ∈ g, (fieldG g).1.1 = x.1 := by
 refine ⟨headF g, headF_mem hne, ?_⟩
 unfold fieldG
 split
 ·rfl
 ·split <;> rfl
theorem fieldG_bn {g : List (Int × Ty)} (hne : g ≠ []) (h : ∀ x ∈ g, bnT x.2 = true) : bnT (fieldG g).1.2 = true := by
 unfold fieldG
 split
 ·exact h _ (headF_mem hne)
 ·split <;> simp [Ty.int, Ty.arr, Ty.uint, bnT, bnE, bnF]

set_option maxRecDepth 100000 in
set_option maxHeartbeats 8000000 in
theorem arrange_any (d : Nat) (T : Nat → Prop) (w : World) (A : Option Addr) (n c : Nat) (p : List (Int × Ty)) (hl : Sl (fdR (tyR d)) w T (.slice A n c) p) (hn : n ≤ 100000) (hoff : ∀ f ∈ p, (0 ≤ f.1 ∧ f.1 ≤ 131072) ∧ bnT f.2 = true) :
  Calls Tryz.prog 40 #[.slice A n c] w (TyErr (d + 3) T w (arrangeF p)) := by
 have hln := hl.len
 obtain ⟨G, hG⟩ : ∃ G, groupsF p = G := ⟨_, rfl⟩
 obtain ⟨L, hL⟩ : ∃ L, fieldsF p = L := ⟨_, rfl⟩
 have hLG : L = G.map fun g => (fieldG g).1 := by rw [← hL, ← hG]; rfl
 have hga := groups_all (P := fun f => (0 ≤ f.1 ∧ f.1 ≤ 131072) ∧ bnT f.2 = true) hoff
 have hgl := groups_len p
 rw [hG] at hga hgl
 have hLen : L.length = G.length := by rw [hLG, List.length_map]
 have hLo : ∀ f ∈ L, (0 ≤ f.1 ∧ f.1 ≤ 131072) ∧ bnT f.2 = true := by
  intro f hf
  rw [hLG] at hf
  obtain ⟨g, hg, rfl⟩ := List.mem_map.1 hf
  obtain ⟨x, hx, e⟩ := fieldG_off (hga g hg).1
  refine ⟨by rw [e]; exact ((hga g hg).2.1 x hx).1, fieldG_bn (hga g hg).1 fun x hx => ((hga g hg).2.1 x hx).2⟩
 have harr : arrangeF p = if 64 < L.length then (Ty.unk, 6) else if rowF L then (Ty.arr (headF L).2 L.length, 0) else (Ty.str L, 0) := by rw [← hL]; rfl
 obtain ⟨R, hR⟩ : ∃ R, arrangeF p = R := ⟨_, rfl⟩
 rw [hR] at harr ⊢
 have HRR := hid harr
 have HLN := hid hln
 have HG := hid hG
 have HGA := hid (fun (g : List (Int × Ty)) (hg : g ∈ G) => (⟨(hga g hg).1, fun x hx => ((hga g hg).2.1 x hx).1, by have := (hga g hg).2.2; omega⟩ : g ≠ [] ∧ (∀ x ∈ g, 0 ≤ x.1 ∧ x.1 ≤ 131072) ∧ g.length ≤ 100000))
 have HLG := hid hLG
 have HLL := hid hLen
 have HLO := hid hLo
 obtain ⟨m, hm⟩ : ∃ m, G.length = m := ⟨_, rfl⟩
 have hmn : m ≤ 100000 := by omega
 have HM := hid hm
 obtain ⟨W0, hW0⟩ : ∃ W0, w.alloc (.cells #[.int .i64 0, .int .i64 0, .int .i64 0, .slice none 0 0, .slice none 0 0] 25) = W0 := ⟨_, rfl⟩
 have hE0 : Ext w W0 := by rw [← hW0]; exact (Ext.refl w).alloc _
 have HB0 : Hid (Box5 W0 w.heap.size (.int .i64 0) (.int .i64 0) (.int .i64 0) (.slice none 0 0) (.slice none 0 0)) := hid (by rw [← hW0]; exact Box5.new w _ _ _ _ _ _)
 have HC := hid (groups_any d (fun b => T b ∧ b < w.heap.size) W0 A n c p (fun b hb => Nat.lt_of_lt_of_le hb.2 hE0.size) ((hl.mono fun b hb hi => ⟨hb, hi.lt⟩).ext hE0) hn fun f hf => (hoff f hf).1)
 have HE0 := hid hE0
 obtain ⟨i0, hi0, hz0, hz1, hz2⟩ := info_parts info_fd
 have HI := hid hi0
 have HI0 := hid hz0
 have HI1 := hid hz1
 have HI2 := hid hz2
 clear hi0 hz0 hz1 hz2 hln hG hL hLG hga hgl hLen hLo harr hR hl hoff hm hE0
 unfold TyErr
 go_enter Tryz.func40, Tryz.ntmps40
 go_wp2_with fail
 refine (HC.out).mono ?_
 rintro e wg ⟨A1, c1, rfl, hs1, hx1⟩
 rw [HG.out, HM.out] at hs1 ⊢
 have HS1 := hid (hs1.mono (S' := fun b => b < wg.heap.size ∧ ((T b ∧ b < w.heap.size) ∨ w.heap.size < b)) fun b hb hi => ⟨hi.lt, by
  have := HB0.out.lt
  rcases hb with hb | hb
  ·exact .inl hb
  ·exact .inr (by omega)⟩)
 have HX1 := hid hx1
 clear hs1 hx1 hW0 HC
 go_wp2
 go_loopw [12, 4] (fun i s4 wr => ∃ (k : Nat) (A2 : Option Addr) (c2 : Nat), k ≤ m ∧ i = .int .i64 k ∧ s4 = .slice A2 k c2 ∧ Hid (OwnS (fdR (tyR (d + 2))) wr wg.heap.size 48 (fun b => (T b ∧ b < w.heap.size) ∨ w.heap.size < b) (.slice A2 k c2) (L.take k)) ∧ Hid (Ext wg wr)) (fun i _ _ => m - (intOf i).toNat)
 case atStart => exact ⟨0, none, 0, by omega, rfl, rfl, hid (by simpa using OwnS.nil), hid (Ext.refl _)⟩
 case round =>
  obtain ⟨k, A2, c2, hk, rfl, rfl, HO, HX⟩ := hrel
  by_cases h1 : k < m
  ·obtain ⟨g, hg⟩ : ∃ g, G[k]? = some g := ⟨_, List.getElem?_eq_getElem (by have := HM.out; omega)⟩
   obtain ⟨bg, og, cs, rfl, ⟨vg, rfl, hvg⟩, hcs⟩ := HS1.out.get hg
   obtain ⟨A3, c3, rfl, hc3, hc4⟩ := hvg.form
   have p0 := HX.out.cell (hcs 0 _ rfl)
   rw [show k * (slR (fdR (tyR d))).size + 0 = k by simp [slR]] at p0
   have hgm := HGA.out g (List.mem_of_getElem? hg)
   have hfx : L[k]? = some (fieldG g).1 := by rw [HLG.out, List.getElem?_map, hg]; rfl
   obtain ⟨f, hf⟩ : ∃ f, fieldG g = f := ⟨_, rfl⟩
   have HFC := hid (field_any d wr (fun b => b < wg.heap.size ∧ ((T b ∧ b < w.heap.size) ∨ w.heap.size < b)) A3 g.length c3 g (hvg.ext HX.out) (List.length_pos_iff.2 hgm.1) hgm.2.2 hgm.2.1)
   rw [hf] at HFC hfx
   obtain ⟨gl, hgl⟩ : ∃ gl, g.length = gl := ⟨_, rfl⟩
   rw [hgl] at p0 HFC
   have HFX := hid hfx
   have HKL := hid (show (L.take k).length = k by rw [List.length_take]; have := HLL.out; have := HM.out; omega)
   clear hcs hvg hg hgm hf hgl hfx hc3 hc4
   go_wp2_with fail
   refine (HFC.out).mono ?_
   rintro e w3 ⟨_, rfl, ⟨A5, n5, c5, B5, m5, e5, rfl, hi5, hv5⟩, hx3⟩
   have HX3 := hid hx3
   have hrel : (fdR (tyR (d + 2))).rel w3 (fun b => ((T b ∧ b < w.heap.size) ∨ w.heap.size < b) ∧ some b ≠ (Value.slice A2 k c2).ownBlock) [.int .i64 f.1.1, .int .i64 f.1.2.kind, .int .i64 f.1.2.size, .int .i64 f.1.2.count, .slice A5 n5 c5, .slice B5 m5 e5] f.1 := by
    refine fd_rel.2 ⟨A5, n5, c5, B5, m5, e5, rfl, hi5, hv5.mono fun b hb hi => ⟨?_, fun e => ?_⟩⟩
    ·rcases hb with hb | hb
     ·exact hb.2
     ·have hb' : wr.heap.size ≤ b := hb
      have h1 := HB0.out.lt
      have h2 := HX1.out.size
      have h3 := HX.out.size
      exact .inr (by omega)
    ·have h1 := HO.out.block b e.symm
     rcases hb with hb | hb
     ·have hb' : b < wg.heap.size := hb.1; omega
     ·have hb' : wr.heap.size ≤ b := hb; omega
   have HREL := hid hrel
   obtain ⟨W2, hW2⟩ : ∃ W2, w3.alloc (.cells #[.int .i64 f.1.1, .int .i64 f.1.2.kind, .int .i64 f.1.2.size, .int .i64 f.1.2.count, .slice A5 n5 c5, .slice B5 m5 e5] 48) = W2 := ⟨_, rfl⟩
   have hE2 : Ext w3 W2 := by rw [← hW2]; exact (Ext.refl _).alloc _
   have q0 : W2.cell? ⟨w3.heap.size, 0, none⟩ = some (.int .i64 f.1.1) := by rw [← hW2]; simp [go_sem]
   have q1 : W2.cell? ⟨w3.heap.size, 1, none⟩ = some (.int .i64 f.1.2.kind) := by rw [← hW2]; simp [go_sem]
   have q2 : W2.cell? ⟨w3.heap.size, 2, none⟩ = some (.int .i64 f.1.2.size) := by rw [← hW2]; simp [go_sem]
   have q3 : W2.cell? ⟨w3.heap.size, 3, none⟩ = some (.int .i64 f.1.2.count) := by rw [← hW2]; simp [go_sem]
   have q4 : W2.cell? ⟨w3.heap.size, 4, none⟩ = some (.slice A5 n5 c5) := by rw [← hW2]; simp [go_sem]
   have q5 : W2.cell? ⟨w3.heap.size, 5, none⟩ = some (.slice B5 m5 e5) := by rw [← hW2]; simp [go_sem]
   have HE2 := hid hE2
   have HO2 := hid (HO.out.ext (hx3.trans hE2))
   have HX2 := hid (HX.out.trans (hx3.trans hE2))
   clear hi5 hv5 hx3 hrel hE2 p0
   go_wp2_with (first
    | (at_builtin; refine wpList_app1l rfl (.tmp 21) (.tmp 23) 23 rfl wg.heap.size 48 i0 _ 6 80 Tryz.underlying23 HI.out HI0.out HI1.out HI2.out rfl (fdR (tyR (d + 2))) (fdR_size _) (.slice A2 k c2) (L.take k) rfl HO2.out W2.heap.size rfl f.1 rfl ((fdR (tyR (d + 2))).ext HE2.out HREL.out) (by have := HKL.out; omega) (by have := HKL.out; omega) (by exact HX2.out.size) ?_; intro A6 c6 w6 hown6 hg6 hloc6; rw [HKL.out] at hown6; have HO6 := hid hown6; have HX6 := hid ((HX2.out.alloc _).grown hg6 (fun q hq => (HO2.out.block q hq).1)); clear hown6 hg6 hloc6; rw [HKL.out])
    | fail)
   clear hW2 q0 q1 q2 q3 q4 q5
   first
    | go_roundw
    | refine ⟨?rel, ?measure⟩
   case rel => exact ⟨k + 1, A6, c6, by omega, by go_num, rfl, hid (by rw [take_snoc' HFX.out]; exact HO6.out), HX6⟩
   case measure => simp [intOf]; omega
  ·obtain rfl : k = m := by omega
   have ho := HO.out
   rw [List.take_of_length_le (by have := HLL.out; have := HM.out; omega)] at ho
   have HO2 := hid ho
   have HML : Hid (L.length = k) := hid (by rw [HLL.out, HM.out])
   have HXA := hid (HE0.out.trans (HX1.out.trans HX.out))
   have HB := hid (HB0.out.ext (HX1.out.trans HX.out))
   clear ho HO
   by_cases h64 : 64 < k
   ·have d1 : decide ((k : Int) > 64) = true := decide_eq_true (by omega)
    have HRV : Hid (R = (Ty.unk, 6)) := hid (by rw [HRR.out, if_pos (by have := HML.out; omega)])
    have r0 := HB.out.1
    have r1 := HB.out.2.1
    have r2 := HB.out.2.2.1
    have r3 := HB.out.2.2.2.1
    have r4 := HB.out.2.2.2.2.1
    have f0 := HB.out.2.2.2.2.2 0
    have f1 := HB.out.2.2.2.2.2 1
    have f2 := HB.out.2.2.2.2.2 2
    have f3 := HB.out.2.2.2.2.2 3
    have f4 := HB.out.2.2.2.2.2 4
    have hc := set5_cells r0 r1 r2 r3 r4 (.int .i64 0) (.int .i64 0) (.int .i64 0) (.slice none 0 0) (.slice none 0 0)
    have hx := set5_ext HXA.out (Nat.le_refl _) (.int .i64 0) (.int .i64 0) (.int .i64 0) (.slice none 0 0) (.slice none 0 0)
    obtain ⟨W6, hW6⟩ : ∃ W6, ((((wr.setCell ⟨w.heap.size, 0, none⟩ (.int .i64 0)).setCell ⟨w.heap.size, 1, none⟩ (.int .i64 0)).setCell ⟨w.heap.size, 2, none⟩ (.int .i64 0)).setCell ⟨w.heap.size, 3, none⟩ (.slice none 0 0)).setCell ⟨w.heap.size, 4, none⟩ (.slice none 0 0) = W6 := ⟨_, rfl⟩
    rw [hW6] at hc hx
    obtain ⟨t0, t1, t2, t3, t4⟩ := hc
    have HX6 := hid hx
    have HW6 := hid hW6
    clear hx hW6
    go_wp2
    rw [HW6.out]
    clear r0 r1 r2 r3 r4
    refine bodyPost_ret (v := .tuple #[.agg #[.int .i64 0, .int .i64 0, .int .i64 0, .slice none 0 0, .slice none 0 0], .int .i64 6]) (by simp [results, Tryz.results40, go_sem, t0, t1, t2, t3, t4]) rfl ?_
    refine ⟨_, by rw [HRV.out]; rfl, ?_, HX6.out⟩
    rw [HRV.out]
    exact tyV_leaf _ _ _ 0 0 (by unfold i64b; omega) (by unfold i64b; omega)
   ·have d1 : decide ((k : Int) > 64) = false := decide_eq_false (by omega)
    have hk64 : ¬ (k : Int) > 64 := by omega
    have HC2 := hid (row_any (d + 2) wr A2 k c2 L HO2.out.sl (by omega) (fun f hf => (HLO.out f hf).1))
    obtain ⟨r, hr⟩ : ∃ r, rowF L = r := ⟨_, rfl⟩
    rw [hr] at HC2
    have HR := hid hr
    clear hr
    go_wp2_with fail
    refine (HC2.out).mono ?_
    rintro e w3 ⟨rfl, hx3⟩
    have HX3 := hid hx3
    have HB3 := hid (HB.out.ext hx3)
    have HXA3 := hid (HXA.out.trans hx3)
    have HO3 := hid (HO2.out.ext hx3)
    clear hx3 hk64
    cases r with
    | true =>
     have HRV : Hid (R = (Ty.arr (headF L).2 L.length, 0)) := hid (by rw [HRR.out, if_neg (by have := HML.out; omega), HR.out, if_pos rfl])
     have hk0 : 0 < k := by
      have h := HR.out
      rw [rowF, Bool.and_eq_true, decide_eq_true_eq] at h
      have := HML.out
      omega
     obtain ⟨y, hy⟩ : ∃ y, L[0]? = some y := ⟨_, List.getElem?_eq_getElem (by have := HML.out; omega)⟩
     have hyh : headF L = y := by
      cases L with
      | nil => cases hy
      | cons a l => simpa [headF] using hy
     obtain ⟨d', b, off, A5, n5, c5, B5, m5, e5, hd, rfl, hv5, hi5, y0, y1, y2, y3, y4, y5⟩ := HO3.out.sl.fd_at hy
     rw [Nat.zero_mul, Nat.add_zero] at y0 y1 y2 y3 y4 y5
     have HC4 := hid (tarr_any d' w3 y.2 _ hv5 (HLO.out y (List.mem_of_getElem? hy)).2 k (by unfold i64b; omega))
     have HYH := hid hyh
     have HD := hid hd
     have hk1 : (0 : Int) < (k : Int) := by omega
     clear hyh hd hv5 hi5 hy
     go_wp2_with fail
     refine (HC4.out).mono ?_
     rintro e w5 ⟨_, rfl, ⟨A7, n7, c7, B7, m7, e7, rfl, hv7⟩, hx5⟩
     have hv7' : TyV (d' + 1) w5 (fun b => w3.heap.size ≤ b) (.agg #[.int .i64 (Ty.arr y.2 k).kind, .int .i64 (Ty.arr y.2 k).size, .int .i64 (Ty.arr y.2 k).count, .slice A7 n7 c7, .slice B7 m7 e7]) (Ty.arr y.2 k) := ⟨A7, n7, c7, B7, m7, e7, rfl, hv7⟩
     have HV7 := hid hv7'
     have HB5 := hid (HB3.out.ext hx5)
     have HXA5 := hid (HXA3.out.trans hx5)
     clear hx5 hv7 hv7' y0 y1 y2 y3 y4 y5
     have r0 := HB5.out.1
     have r1 := HB5.out.2.1
     have r2 := HB5.out.2.2.1
     have r3 := HB5.out.2.2.2.1
     have r4 := HB5.out.2.2.2.2.1
     have f0 := HB5.out.2.2.2.2.2 0
     have f1 := HB5.out.2.2.2.2.2 1
     have f2 := HB5.out.2.2.2.2.2 2
     have f3 := HB5.out.2.2.2.2.2 3
     have f4 := HB5.out.2.2.2.2.2 4
     have hc := set5_cells r0 r1 r2 r3 r4 (.int .i64 (Ty.arr y.2 k).kind) (.int .i64 (Ty.arr y.2 k).size) (.int .i64 (Ty.arr y.2 k).count) (.slice A7 n7 c7) (.slice B7 m7 e7)
     have hx := set5_ext HXA5.out (Nat.le_refl _) (.int .i64 (Ty.arr y.2 k).kind) (.int .i64 (Ty.arr y.2 k).size) (.int .i64 (Ty.arr y.2 k).count) (.slice A7 n7 c7) (.slice B7 m7 e7)
     obtain ⟨W6, hW6⟩ : ∃ W6, ((((w5.setCell ⟨w.heap.size, 0, none⟩ (.int .i64 (Ty.arr y.2 k).kind)).setCell ⟨w.heap.size, 1, none⟩ (.int .i64 (Ty.arr y.2 k).size)).setCell ⟨w.heap.size, 2, none⟩ (.int .i64 (Ty.arr y.2 k).count)).setCell ⟨w.heap.size, 3, none⟩ (.slice A7 n7 c7)).setCell ⟨w.heap.size, 4, none⟩ (.slice B7 m7 e7) = W6 := ⟨_, rfl⟩
     rw [hW6] at hc hx
     obtain ⟨t0, t1, t2, t3, t4⟩ := hc
     have HX6 := hid hx
     have HW6 := hid hW6
     clear hx hW6
     go_wp2
     rw [HW6.out]
     clear r0 r1 r2 r3 r4
     refine bodyPost_ret (v := .tuple #[.agg #[.int .i64 (Ty.arr y.2 k).kind, .int .i64 (Ty.arr y.2 k).size, .int .i64 (Ty.arr y.2 k).count, .slice A7 n7 c7, .slice B7 m7 e7], .int .i64 0]) (by simp [results, Tryz.results40, go_sem, t0, t1, t2, t3, t4]) rfl ?_
     refine ⟨_, by rw [HRV.out]; rfl, ?_, HX6.out⟩
     rw [HRV.out, HYH.out, HML.out]
     have hsz := HXA3.out.size
     refine TyV.up (by have := HD.out; omega) (TyV.mono (fun b hb _ => ?_) (TyV.keep (fun b hb _ => ?_) HV7.out))
     ·have hb' : w3.heap.size ≤ b := hb
      exact .inr (by omega)
     have hb' : w3.heap.size ≤ b := hb
     have := HB3.out.lt
     rw [← HW6.out]
     exact set5_heap _ _ _ _ _ _ _ (by omega)
    | false =>
     have HRV : Hid (R = (Ty.str L, 0)) := hid (by rw [HRR.out, if_neg (by have := HML.out; omega), HR.out, if_neg (by simp)])
     have r0 := HB3.out.1
     have r1 := HB3.out.2.1
     have r2 := HB3.out.2.2.1
     have r3 := HB3.out.2.2.2.1
     have r4 := HB3.out.2.2.2.2.1
     have f0 := HB3.out.2.2.2.2.2 0
     have f1 := HB3.out.2.2.2.2.2 1
     have f2 := HB3.out.2.2.2.2.2 2
     have f3 := HB3.out.2.2.2.2.2 3
     have f4 := HB3.out.2.2.2.2.2 4
     have hc := set5_cells r0 r1 r2 r3 r4 (.int .i64 5) (.int .i64 0) (.int .i64 0) (.slice none 0 0) (.slice A2 k c2)
     have hx := set5_ext HXA3.out (Nat.le_refl _) (.int .i64 5) (.int .i64 0) (.int .i64 0) (.slice none 0 0) (.slice A2 k c2)
     obtain ⟨W6, hW6⟩ : ∃ W6, ((((w3.setCell ⟨w.heap.size, 0, none⟩ (.int .i64 5)).setCell ⟨w.heap.size, 1, none⟩ (.int .i64 0)).setCell ⟨w.heap.size, 2, none⟩ (.int .i64 0)).setCell ⟨w.heap.size, 3, none⟩ (.slice none 0 0)).setCell ⟨w.heap.size, 4, none⟩ (.slice A2 k c2) = W6 := ⟨_, rfl⟩
     rw [hW6] at hc hx
     obtain ⟨t0, t1, t2, t3, t4⟩ := hc
     have HX6 := hid hx
     have HW6 := hid hW6
     clear hx hW6
     go_wp2
     rw [HW6.out]
     clear r0 r1 r2 r3 r4
     refine bodyPost_ret (v := .tuple #[.agg #[.int .i64 5, .int .i64 0, .int .i64 0, .slice none 0 0, .slice A2 k c2], .int .i64 0]) (by simp [results, Tryz.results40, go_sem, t0, t1, t2, t3, t4]) rfl ?_
     refine ⟨_, by rw [HRV.out]; rfl, ?_, HX6.out⟩
     rw [HRV.out]
     have hsl : Sl (fdR (tyR (d + 2))) w3 (fun b => (T b ∧ b < w.heap.size) ∨ w.heap.size < b) (.slice A2 k c2) L := by
      refine HO3.out.slT (fun b hb => hb) fun b hb => ?_
      have h0 := (HO3.out.block b hb).1
      have h1 := HB0.out.lt
      have h2 := HX1.out.size
      exact .inr (by omega)
     have hsl2 := hsl.keep (w' := W6) (fun b hb _ => by
      rw [← HW6.out]
      exact set5_heap _ _ _ _ _ _ _ (by rcases hb with hb | hb <;> omega))
     refine TyV.up (Nat.le_succ _) ⟨none, 0, 0, A2, k, c2, rfl, Sl.nil, hsl2.mono fun b hb _ => hb.elim (fun h => .inl h.1) (fun h => .inr (Nat.le_of_lt h)), by show i64b 5; unfold i64b; omega, by show i64b 0; unfold i64b; omega, by show i64b 0; unfold i64b; omega⟩
end Go.Proofs.YtacmjhcfjhpkeaaGreatDoor
