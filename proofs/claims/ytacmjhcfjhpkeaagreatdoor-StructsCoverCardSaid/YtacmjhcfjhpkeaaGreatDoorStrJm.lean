/- structs: Merge. -/
import Derived.Test.YtacmjhcfjhpkeaaGreatDoorShim
namespace Go.Proofs.YtacmjhcfjhpkeaaGreatDoor
open Go.RowKit Go.Deco
set_option linter.unusedSimpArgs false
set_option linter.unusedVariables false

theorem arrange_bn {p : List (Int × Ty)} (hn : p.length ≤ 100000) (h : ∀ f ∈ p, (0 ≤ f.1 ∧ f.1 ≤ 131072) ∧ bnT f.2 = true) : bnT (arrangeF p).1 = true := by
 have hga := groups_all h
 have hL : ∀ f ∈ fieldsF p, bnT f.2 = true := by
  intro f hf
  rw [← flds_all] at hf
  obtain ⟨g, hg, rfl⟩ := List.mem_map.1 hf
  exact fieldG_bn (hga g hg).1 fun x hx => ((hga g hg).2.1 x hx).2
 have hF : ∀ (l : List (Int × Ty)), (∀ f ∈ l, bnT f.2 = true) → bnF l = true := by
  intro l
  induction l with
  | nil => intro _; rfl
  | cons x l ih =>
   intro hl
   obtain ⟨o, t⟩ := x
   rw [bnF, hl (o, t) (by simp), ih fun f hf => hl f (by simp [hf])]
   rfl
 have harr : arrangeF p = if 64 < (fieldsF p).length then (Ty.unk, 6) else if rowF (fieldsF p) then (Ty.arr (headF (fieldsF p)).2 (fieldsF p).length, 0) else (Ty.str (fieldsF p), 0) := rfl
 rw [harr]
 split
 ·decide
 ·rename_i h64
  split
  ·rename_i hr
   have hne : fieldsF p ≠ [] := by
    intro e
    rw [e] at hr
    exact absurd hr (by decide)
   have hx : bnT (headF (fieldsF p)).2 = true := hL _ (headF_mem hne)
   show bnT (Ty.mk 4 0 _ [(headF (fieldsF p)).2] []) = true
   rw [bnT, bnE, hx, bnE, bnF]
   rfl
  ·show bnT (Ty.mk 5 0 0 [] (fieldsF p)) = true
   rw [bnT, bnE, hF _ hL, decide_eq_true (show (fieldsF p).length ≤ 1000000 by omega)]
   rfl
theorem sl_two {d n m : Nat} {w : World} {T : Nat → Prop} {A A' : Option Addr} {c c' : Nat} {p q : List (Int × Ty)} (h1 : Sl (fdR (tyR d)) w T (.slice A n c) p) (h2 : Sl (fdR (tyR d)) w T (.slice A' m c') q) (hT : T w.heap.size) :
  Sl (slR (fdR (tyR d))) (w.alloc (.cells #[.slice A n c, .slice A' m c'] 23)) T (.slice (some ⟨w.heap.size, 0, none⟩) 2 2) [p, q] := by
 have ho := World.ownsRow_lit (size := 1) (e := 23) w #[.slice A n c, .slice A' m c'] 2 (Nat.le_refl w.heap.size) (by simp [maxLen]) (by simp)
 refine OwnS.slT (base := w.heap.size) (e := 23) (T := fun b => T b ∧ b < w.heap.size) ⟨[.slice A n c, .slice A' m c'], by simpa [slR] using ho, ?_⟩ (fun b hb => hb.1) (fun b hb => by
  have : b = w.heap.size := by simpa [Value.ownBlock] using hb.symm
  rw [this]; exact hT)
 have hm : ∀ {v : Value} {l : List (Int × Ty)}, Sl (fdR (tyR d)) w T v l → Sl (fdR (tyR d)) (w.alloc (.cells #[.slice A n c, .slice A' m c'] 23)) (fun b => (T b ∧ b < w.heap.size) ∧ some b ≠ (Value.slice (some ⟨w.heap.size, 0, none⟩) 2 2).ownBlock) v l := by
  intro v l h
  refine ((h.mono (S' := fun b => T b ∧ b < w.heap.size) fun b hb hi => ⟨hb, hi.lt⟩).ext ((Ext.refl w).alloc _)).mono fun b hb _ => ⟨hb, fun e => ?_⟩
  have hb' : b < w.heap.size := hb.2
  have : b = w.heap.size := by simpa [Value.ownBlock] using e
  omega
 exact ⟨[_], [_], rfl, ⟨_, rfl, hm h1⟩, [_], [], rfl, ⟨_, rfl, hm h2⟩, rfl⟩
theorem extAlloc {a w : World} (h : Ext a w) (o : Obj) : ∃ wA sz, w.alloc o = wA ∧ w.heap.size = sz ∧ Ext w wA ∧ a.heap.size ≤ sz := ⟨_, _, rfl, rfl, (Ext.refl w).alloc o, h.size⟩
theorem extAllocT {a w : World} (h : Ext a w) : ∃ wA sz, w.alloc (.cells #[.int .i64 0, .int .i64 0, .int .i64 0, .slice none 0 0, .slice none 0 0] 25) = wA ∧ w.heap.size = sz ∧ Ext w wA ∧ a.heap.size ≤ sz ∧ Box5 wA sz (.int .i64 0) (.int .i64 0) (.int .i64 0) (.slice none 0 0) (.slice none 0 0) :=
 ⟨_, _, rfl, rfl, (Ext.refl w).alloc _, h.size, Box5.new w _ _ _ _ _ _⟩
/-- A box for a type, not yet written. -/
structure ZTy (lo a : Nat) (w : World) : Prop where
 bx : Box5 w a (.int .i64 0) (.int .i64 0) (.int .i64 0) (.slice none 0 0) (.slice none 0 0)
 ge : lo ≤ a
theorem ZTy.ext {lo a : Nat} {w w' : World} (h : ZTy lo a w) (he : Ext w w') : ZTy lo a w' := ⟨h.bx.ext he, h.ge⟩
theorem putT {a w : World} {lo aZ d : Nat} {t : Ty} {k s c : Int} {A B : Option Addr} {n e m f : Nat} (h : Ext a w) (hz : ZTy lo aZ w) (hlo : a.heap.size ≤ lo)
  (hv : TyV d w (fun b => b ≠ aZ) (.agg #[.int .i64 k, .int .i64 s, .int .i64 c, .slice A n e, .slice B m f]) t) :
  ∃ W, ((((w.setCell ⟨aZ, 0, none⟩ (.int .i64 k)).setCell ⟨aZ, 1, none⟩ (.int .i64 s)).setCell ⟨aZ, 2, none⟩ (.int .i64 c)).setCell ⟨aZ, 3, none⟩ (.slice A n e)).setCell ⟨aZ, 4, none⟩ (.slice B m f) = W ∧ Ext a W ∧
   (W.cell? ⟨aZ, 0, none⟩ = some (.int .i64 k) ∧ W.cell? ⟨aZ, 1, none⟩ = some (.int .i64 s) ∧ W.cell? ⟨aZ, 2, none⟩ = some (.int .i64 c) ∧ W.cell? ⟨aZ, 3, none⟩ = some (.slice A n e) ∧ W.cell? ⟨aZ, 4, none⟩ = some (.slice B m f)) ∧
   TyV d W All (.agg #[.int .i64 k, .int .i64 s, .int .i64 c, .slice A n e, .slice B m f]) t := by
 have hge := hz.ge
 refine ⟨_, rfl, set5_ext h (b := aZ) (by omega) _ _ _ _ _, set5_cells hz.bx.1 hz.bx.2.1 hz.bx.2.2.1 hz.bx.2.2.2.1 hz.bx.2.2.2.2.1 _ _ _ _ _, TyV.all (TyV.keep (fun b hb _ => set5_heap _ _ _ _ _ _ _ hb) hv)⟩
theorem ext10c {w w' : World} {p0 p1 p2 p3 p4 q0 q1 q2 q3 q4 : Addr} {u0 u1 u2 u3 u4 v0 v1 v2 v3 v4 : Value} (h : w.cell? p0 = some u0 ∧ w.cell? p1 = some u1 ∧ w.cell? p2 = some u2 ∧ w.cell? p3 = some u3 ∧ w.cell? p4 = some u4 ∧ w.cell? q0 = some v0 ∧ w.cell? q1 = some v1 ∧ w.cell? q2 = some v2 ∧ w.cell? q3 = some v3 ∧ w.cell? q4 = some v4) (he : Ext w w') :
  w'.cell? p0 = some u0 ∧ w'.cell? p1 = some u1 ∧ w'.cell? p2 = some u2 ∧ w'.cell? p3 = some u3 ∧ w'.cell? p4 = some u4 ∧ w'.cell? q0 = some v0 ∧ w'.cell? q1 = some v1 ∧ w'.cell? q2 = some v2 ∧ w'.cell? q3 = some v3 ∧ w'.cell? q4 = some v4 :=
 ⟨he.cell h.1, he.cell h.2.1, he.cell h.2.2.1, he.cell h.2.2.2.1, he.cell h.2.2.2.2.1, he.cell h.2.2.2.2.2.1, he.cell h.2.2.2.2.2.2.1, he.cell h.2.2.2.2.2.2.2.1, he.cell h.2.2.2.2.2.2.2.2.1, he.cell h.2.2.2.2.2.2.2.2.2⟩
set_option maxRecDepth 100000 in
set_option maxHeartbeats 8000000 in
theorem merge_any (d : Nat) (w : World) (a b : Ty) (va vb : Value) (hva : TyV d w All va a) (hvb : TyV d w All vb b) :
  Calls Tryz.prog 27 #[va, vb] w (TyErr (d + 3) (fun _ => False) w (mergeT a b)) := by
 have HVA := hid hva
 have HVB := hid hvb
 obtain ⟨A, na, ca, B, nb, cb, rfl, -⟩ := hva
 obtain ⟨A', na', ca', B', nb', cb', rfl, -⟩ := hvb
 obtain ⟨R, hR⟩ : ∃ R, mergeT a b = R := ⟨_, rfl⟩
 rw [hR]
 unfold mergeT at hR
 have HRR := hid hR
 obtain ⟨W0, hW0⟩ : ∃ W0, ((w.alloc (.cells #[.int .i64 a.kind, .int .i64 a.size, .int .i64 a.count, .slice A na ca, .slice B nb cb] 25)).alloc (.cells #[.int .i64 b.kind, .int .i64 b.size, .int .i64 b.count, .slice A' na' ca', .slice B' nb' cb'] 25)).alloc (.cells #[.int .i64 0, .int .i64 0, .int .i64 0, .slice none 0 0, .slice none 0 0] 25) = W0 := ⟨_, rfl⟩
 have hE0 : Ext w W0 := by rw [← hW0]; exact (((Ext.refl w).alloc _).alloc _).alloc _
 have o0 : W0.cell? ⟨w.heap.size, 0, none⟩ = some (.int .i64 a.kind) := by rw [← hW0]; simp [go_sem]
 have o1 : W0.cell? ⟨w.heap.size, 1, none⟩ = some (.int .i64 a.size) := by rw [← hW0]; simp [go_sem]
 have o2 : W0.cell? ⟨w.heap.size, 2, none⟩ = some (.int .i64 a.count) := by rw [← hW0]; simp [go_sem]
 have o3 : W0.cell? ⟨w.heap.size, 3, none⟩ = some (.slice A na ca) := by rw [← hW0]; simp [go_sem]
 have o4 : W0.cell? ⟨w.heap.size, 4, none⟩ = some (.slice B nb cb) := by rw [← hW0]; simp [go_sem]
 have u0 : W0.cell? ⟨w.heap.size + 1, 0, none⟩ = some (.int .i64 b.kind) := by rw [← hW0]; simp [go_sem]
 have u1 : W0.cell? ⟨w.heap.size + 1, 1, none⟩ = some (.int .i64 b.size) := by rw [← hW0]; simp [go_sem]
 have u2 : W0.cell? ⟨w.heap.size + 1, 2, none⟩ = some (.int .i64 b.count) := by rw [← hW0]; simp [go_sem]
 have u3 : W0.cell? ⟨w.heap.size + 1, 3, none⟩ = some (.slice A' na' ca') := by rw [← hW0]; simp [go_sem]
 have u4 : W0.cell? ⟨w.heap.size + 1, 4, none⟩ = some (.slice B' nb' cb') := by rw [← hW0]; simp [go_sem]
 have HB0 : Hid (Box5 W0 (w.heap.size + 1 + 1) (.int .i64 0) (.int .i64 0) (.int .i64 0) (.slice none 0 0) (.slice none 0 0)) := hid (by
  rw [← hW0]
  have h := Box5.new ((w.alloc (.cells #[.int .i64 a.kind, .int .i64 a.size, .int .i64 a.count, .slice A na ca, .slice B nb cb] 25)).alloc (.cells #[.int .i64 b.kind, .int .i64 b.size, .int .i64 b.count, .slice A' na' ca', .slice B' nb' cb'] 25)) (.int .i64 0) (.int .i64 0) (.int .i64 0) (.slice none 0 0) (.slice none 0 0) 25
  simpa using h)
 have HE0 := hid hE0
 obtain ⟨za, hza⟩ : ∃ za, chkT a = za := ⟨_, rfl⟩
 obtain ⟨zb, hzb⟩ : ∃ zb, chkT b = zb := ⟨_, rfl⟩
 have HCA := hid (tcheck_any d W0 a _ (HVA.out.ext HE0.out))
 have HCB := hid (fun w' (h : Ext w w') => tcheck_any d w' b _ (HVB.out.ext h))
 rw [hza] at HCA
 rw [hzb] at HCB
 have HZA := hid hza
 have HZB := hid hzb
 unfold TyErr
 clear hR hza hzb hE0
 go_enter Tryz.func27, Tryz.ntmps27
 go_wp2_with fail
 refine (HCA.out).mono ?_
 rintro e w1 ⟨rfl, hx1⟩
 have HX1 := hid (HE0.out.trans hx1)
 have HB1 := hid (HB0.out.ext hx1)
 have o0 := hx1.cell o0
 have o1 := hx1.cell o1
 have o2 := hx1.cell o2
 have o3 := hx1.cell o3
 have o4 := hx1.cell o4
 have u0 := hx1.cell u0
 have u1 := hx1.cell u1
 have u2 := hx1.cell u2
 have u3 := hx1.cell u3
 have u4 := hx1.cell u4
 clear hx1 hW0
 by_cases ha : za = 0
 ·subst ha
  have HCB1 := hid (HCB.out w1 HX1.out)
  go_wp2_with fail
  refine (HCB1.out).mono ?_
  rintro e w2 ⟨rfl, hx2⟩
  have HX2 := hid (HX1.out.trans hx2)
  have HB2 := hid (HB1.out.ext hx2)
  have o0 := hx2.cell o0
  have o1 := hx2.cell o1
  have o2 := hx2.cell o2
  have o3 := hx2.cell o3
  have o4 := hx2.cell o4
  have u0 := hx2.cell u0
  have u1 := hx2.cell u1
  have u2 := hx2.cell u2
  have u3 := hx2.cell u3
  have u4 := hx2.cell u4
  clear hx2
  by_cases hb : zb = 0
  ·subst hb
   obtain ⟨pa, hpa⟩ : ∃ pa, properT a = pa := ⟨_, rfl⟩
   obtain ⟨pb, hpb⟩ : ∃ pb, properT b = pb := ⟨_, rfl⟩
   have HPA := hid hpa
   have HPB := hid hpb
   have HPAC := hid (proper_any d w2 a _ (HVA.out.ext HX2.out))
   have HPBC := hid (fun w' (h : Ext w w') => proper_any d w' b _ (HVB.out.ext h))
   rw [hpa] at HPAC
   rw [hpb] at HPBC
   have hrr := HRR.out
   rw [if_neg (by rw [HZA.out]; simp), if_neg (by rw [HZB.out]; simp), hpa, hpb] at hrr
   have HR3 := hid hrr
   clear hpa hpb hrr
   go_wp2_with fail
   refine (HPAC.out).mono ?_
   rintro e w3 ⟨rfl, hx3⟩
   have HX3 := hid (HX2.out.trans hx3)
   have HB3 := hid (HB2.out.ext hx3)
   have o0 := hx3.cell o0
   have o1 := hx3.cell o1
   have o2 := hx3.cell o2
   have o3 := hx3.cell o3
   have o4 := hx3.cell o4
   have u0 := hx3.cell u0
   have u1 := hx3.cell u1
   have u2 := hx3.cell u2
   have u3 := hx3.cell u3
   have u4 := hx3.cell u4
   clear hx3
   cases pa with
   | false =>
    have HRV : Hid (R = (Ty.unk, 16)) := hid (by rw [← HR3.out, if_pos (.inl rfl)])
    have r0 := HB3.out.1
    have r1 := HB3.out.2.1
    have r2 := HB3.out.2.2.1
    have r3 := HB3.out.2.2.2.1
    have r4 := HB3.out.2.2.2.2.1
    have f0 := HB3.out.2.2.2.2.2 0
    have f1 := HB3.out.2.2.2.2.2 1
    have f2 := HB3.out.2.2.2.2.2 2
    have f3 := HB3.out.2.2.2.2.2 3
    have f4 := HB3.out.2.2.2.2.2 4
    have hc := set5_cells r0 r1 r2 r3 r4 (.int .i64 0) (.int .i64 0) (.int .i64 0) (.slice none 0 0) (.slice none 0 0)
    have hx := set5_ext HX3.out (b := w.heap.size + 1 + 1) (by omega) (.int .i64 0) (.int .i64 0) (.int .i64 0) (.slice none 0 0) (.slice none 0 0)
    obtain ⟨W6, hW6⟩ : ∃ W6, ((((w3.setCell ⟨w.heap.size + 1 + 1, 0, none⟩ (.int .i64 0)).setCell ⟨w.heap.size + 1 + 1, 1, none⟩ (.int .i64 0)).setCell ⟨w.heap.size + 1 + 1, 2, none⟩ (.int .i64 0)).setCell ⟨w.heap.size + 1 + 1, 3, none⟩ (.slice none 0 0)).setCell ⟨w.heap.size + 1 + 1, 4, none⟩ (.slice none 0 0) = W6 := ⟨_, rfl⟩
    rw [hW6] at hc hx
    obtain ⟨t0, t1, t2, t3, t4⟩ := hc
    have HX6 := hid hx
    have HW6 := hid hW6
    clear hx hW6
    go_wp2
    rw [HW6.out]
    clear r0 r1 r2 r3 r4
    refine bodyPost_ret (v := .tuple #[.agg #[.int .i64 0, .int .i64 0, .int .i64 0, .slice none 0 0, .slice none 0 0], .int .i64 16]) (by simp [results, Tryz.results27, go_sem, t0, t1, t2, t3, t4]) rfl ?_
    refine ⟨_, by first | (rw [HRV.out]; done) | (rw [HRV.out]; rfl), ?_, HX6.out⟩
    rw [HRV.out]
    exact tyV_leaf _ _ _ 0 0 (by unfold i64b; omega) (by unfold i64b; omega)
   | true =>
    have HPBC3 := hid (HPBC.out w3 HX3.out)
    go_wp2_with fail
    refine (HPBC3.out).mono ?_
    rintro e w4 ⟨rfl, hx4⟩
    have HX4 := hid (HX3.out.trans hx4)
    have HB4 := hid (HB3.out.ext hx4)
    have o0 := hx4.cell o0
    have o1 := hx4.cell o1
    have o2 := hx4.cell o2
    have o3 := hx4.cell o3
    have o4 := hx4.cell o4
    have u0 := hx4.cell u0
    have u1 := hx4.cell u1
    have u2 := hx4.cell u2
    have u3 := hx4.cell u3
    have u4 := hx4.cell u4
    clear hx4
    cases pb with
    | false =>
     have HRV : Hid (R = (Ty.unk, 16)) := hid (by rw [← HR3.out, if_pos (.inr rfl)])
     have r0 := HB4.out.1
     have r1 := HB4.out.2.1
     have r2 := HB4.out.2.2.1
     have r3 := HB4.out.2.2.2.1
     have r4 := HB4.out.2.2.2.2.1
     have f0 := HB4.out.2.2.2.2.2 0
     have f1 := HB4.out.2.2.2.2.2 1
     have f2 := HB4.out.2.2.2.2.2 2
     have f3 := HB4.out.2.2.2.2.2 3
     have f4 := HB4.out.2.2.2.2.2 4
     have hc := set5_cells r0 r1 r2 r3 r4 (.int .i64 0) (.int .i64 0) (.int .i64 0) (.slice none 0 0) (.slice none 0 0)
     have hx := set5_ext HX4.out (b := w.heap.size + 1 + 1) (by omega) (.int .i64 0) (.int .i64 0) (.int .i64 0) (.slice none 0 0) (.slice none 0 0)
     obtain ⟨W6, hW6⟩ : ∃ W6, ((((w4.setCell ⟨w.heap.size + 1 + 1, 0, none⟩ (.int .i64 0)).setCell ⟨w.heap.size + 1 + 1, 1, none⟩ (.int .i64 0)).setCell ⟨w.heap.size + 1 + 1, 2, none⟩ (.int .i64 0)).setCell ⟨w.heap.size + 1 + 1, 3, none⟩ (.slice none 0 0)).setCell ⟨w.heap.size + 1 + 1, 4, none⟩ (.slice none 0 0) = W6 := ⟨_, rfl⟩
     rw [hW6] at hc hx
     obtain ⟨t0, t1, t2, t3, t4⟩ := hc
     have HX6 := hid hx
     have HW6 := hid hW6
     clear hx hW6
     go_wp2
     rw [HW6.out]
     clear r0 r1 r2 r3 r4
     refine bodyPost_ret (v := .tuple #[.agg #[.int .i64 0, .int .i64 0, .int .i64 0, .slice none 0 0, .slice none 0 0], .int .i64 16]) (by simp [results, Tryz.results27, go_sem, t0, t1, t2, t3, t4]) rfl ?_
     refine ⟨_, by first | (rw [HRV.out]; done) | (rw [HRV.out]; rfl), ?_, HX6.out⟩
     rw [HRV.out]
     exact tyV_leaf _ _ _ 0 0 (by unfold i64b; omega) (by unfold i64b; omega)
    | true =>
     obtain ⟨ka, hka⟩ : ∃ ka, countT a = ka := ⟨_, rfl⟩
     obtain ⟨kb, hkb⟩ : ∃ kb, countT b = kb := ⟨_, rfl⟩
     have HCNA := hid (count_any d w4 a _ (HVA.out.ext HX4.out))
     have HCNB := hid (fun w' (h : Ext w w') => count_any d w' b _ (HVB.out.ext h))
     rw [hka] at HCNA
     rw [hkb] at HCNB
     have hrr := HR3.out
     rw [if_neg (by simp), hka, hkb] at hrr
     have HR4 := hid hrr
     have HKA := hid hka
     have HKB := hid hkb
     clear hka hkb hrr
     go_wp2_with fail
     refine (HCNA.out).mono ?_
     rintro e w5 ⟨rfl, hx5⟩
     have HX5 := hid (HX4.out.trans hx5)
     have HB5 := hid (HB4.out.ext hx5)
     have o0 := hx5.cell o0
     have o1 := hx5.cell o1
     have o2 := hx5.cell o2
     have o3 := hx5.cell o3
     have o4 := hx5.cell o4
     have u0 := hx5.cell u0
     have u1 := hx5.cell u1
     have u2 := hx5.cell u2
     have u3 := hx5.cell u3
     have u4 := hx5.cell u4
     clear hx5
     by_cases hka : 1024 < ka
     ·have d1 : decide (ka > 1024) = true := decide_eq_true hka
      have HRV : Hid (R = (Ty.unk, 6)) := hid (by rw [← HR4.out, if_pos (.inl hka)])
      clear hka
      have r0 := HB5.out.1
      have r1 := HB5.out.2.1
      have r2 := HB5.out.2.2.1
      have r3 := HB5.out.2.2.2.1
      have r4 := HB5.out.2.2.2.2.1
      have f0 := HB5.out.2.2.2.2.2 0
      have f1 := HB5.out.2.2.2.2.2 1
      have f2 := HB5.out.2.2.2.2.2 2
      have f3 := HB5.out.2.2.2.2.2 3
      have f4 := HB5.out.2.2.2.2.2 4
      have hc := set5_cells r0 r1 r2 r3 r4 (.int .i64 0) (.int .i64 0) (.int .i64 0) (.slice none 0 0) (.slice none 0 0)
      have hx := set5_ext HX5.out (b := w.heap.size + 1 + 1) (by omega) (.int .i64 0) (.int .i64 0) (.int .i64 0) (.slice none 0 0) (.slice none 0 0)
      obtain ⟨W6, hW6⟩ : ∃ W6, ((((w5.setCell ⟨w.heap.size + 1 + 1, 0, none⟩ (.int .i64 0)).setCell ⟨w.heap.size + 1 + 1, 1, none⟩ (.int .i64 0)).setCell ⟨w.heap.size + 1 + 1, 2, none⟩ (.int .i64 0)).setCell ⟨w.heap.size + 1 + 1, 3, none⟩ (.slice none 0 0)).setCell ⟨w.heap.size + 1 + 1, 4, none⟩ (.slice none 0 0) = W6 := ⟨_, rfl⟩
      rw [hW6] at hc hx
      obtain ⟨t0, t1, t2, t3, t4⟩ := hc
      have HX6 := hid hx
      have HW6 := hid hW6
      clear hx hW6
      go_wp2
      rw [HW6.out]
      clear r0 r1 r2 r3 r4
      refine bodyPost_ret (v := .tuple #[.agg #[.int .i64 0, .int .i64 0, .int .i64 0, .slice none 0 0, .slice none 0 0], .int .i64 6]) (by simp [results, Tryz.results27, go_sem, t0, t1, t2, t3, t4]) rfl ?_
      refine ⟨_, by first | (rw [HRV.out]; done) | (rw [HRV.out]; rfl), ?_, HX6.out⟩
      rw [HRV.out]
      exact tyV_leaf _ _ _ 0 0 (by unfold i64b; omega) (by unfold i64b; omega)
     ·have d1 : decide (ka > 1024) = false := decide_eq_false hka
      have HCNB5 := hid (HCNB.out w5 HX5.out)
      have HNA := hid hka
      clear hka
      go_wp2_with fail
      refine (HCNB5.out).mono ?_
      rintro e w6 ⟨rfl, hx6⟩
      have HX6 := hid (HX5.out.trans hx6)
      have HB6 := hid (HB5.out.ext hx6)
      have o0 := hx6.cell o0
      have o1 := hx6.cell o1
      have o2 := hx6.cell o2
      have o3 := hx6.cell o3
      have o4 := hx6.cell o4
      have u0 := hx6.cell u0
      have u1 := hx6.cell u1
      have u2 := hx6.cell u2
      have u3 := hx6.cell u3
      have u4 := hx6.cell u4
      clear hx6
      by_cases hkb : 1024 < kb
      ·have d2 : decide (kb > 1024) = true := decide_eq_true hkb
       have HRV : Hid (R = (Ty.unk, 6)) := hid (by rw [← HR4.out, if_pos (.inr hkb)])
       clear hkb
       have HX6a := HX6
       have r0 := HB6.out.1
       have r1 := HB6.out.2.1
       have r2 := HB6.out.2.2.1
       have r3 := HB6.out.2.2.2.1
       have r4 := HB6.out.2.2.2.2.1
       have f0 := HB6.out.2.2.2.2.2 0
       have f1 := HB6.out.2.2.2.2.2 1
       have f2 := HB6.out.2.2.2.2.2 2
       have f3 := HB6.out.2.2.2.2.2 3
       have f4 := HB6.out.2.2.2.2.2 4
       have hc := set5_cells r0 r1 r2 r3 r4 (.int .i64 0) (.int .i64 0) (.int .i64 0) (.slice none 0 0) (.slice none 0 0)
       have hx := set5_ext HX6a.out (b := w.heap.size + 1 + 1) (by omega) (.int .i64 0) (.int .i64 0) (.int .i64 0) (.slice none 0 0) (.slice none 0 0)
       obtain ⟨W6, hW6⟩ : ∃ W6, ((((w6.setCell ⟨w.heap.size + 1 + 1, 0, none⟩ (.int .i64 0)).setCell ⟨w.heap.size + 1 + 1, 1, none⟩ (.int .i64 0)).setCell ⟨w.heap.size + 1 + 1, 2, none⟩ (.int .i64 0)).setCell ⟨w.heap.size + 1 + 1, 3, none⟩ (.slice none 0 0)).setCell ⟨w.heap.size + 1 + 1, 4, none⟩ (.slice none 0 0) = W6 := ⟨_, rfl⟩
       rw [hW6] at hc hx
       obtain ⟨t0, t1, t2, t3, t4⟩ := hc
       have HX6 := hid hx
       have HW6 := hid hW6
       clear hx hW6
       go_wp2
       rw [HW6.out]
       clear r0 r1 r2 r3 r4
       refine bodyPost_ret (v := .tuple #[.agg #[.int .i64 0, .int .i64 0, .int .i64 0, .slice none 0 0, .slice none 0 0], .int .i64 6]) (by simp [results, Tryz.results27, go_sem, t0, t1, t2, t3, t4]) rfl ?_
       refine ⟨_, by first | (rw [HRV.out]; done) | (rw [HRV.out]; rfl), ?_, HX6.out⟩
       rw [HRV.out]
       exact tyV_leaf _ _ _ 0 0 (by unfold i64b; omega) (by unfold i64b; omega)
      ·have d2 : decide (kb > 1024) = false := decide_eq_false hkb
       have HRV : Hid (arrangeF (partsT a ++ partsT b) = R) := hid (by rw [← HR4.out, if_neg (by have := HNA.out; intro h; rcases h with h | h <;> omega)])
       have HOA := hid (parts_ok HZA.out HPA.out (by have := HNA.out; have := HKA.out; omega))
       have HOB := hid (parts_ok HZB.out HPB.out (by have := HKB.out; omega))
       have HPTA := hid (fun (T : Nat → Prop) (w' : World) (h : Ext w w') (hT : ∀ b, b < w.heap.size → T b) => parts_any d T w' a _ (TyV.mono (fun b hb _ => hT b hb) (TyV.ext (TyV.mono (S' := fun b => b < w.heap.size) (fun b _ hi => hi.lt) HVA.out) h)) HOA.out.arr)
       have HPTB := hid (fun (T : Nat → Prop) (w' : World) (h : Ext w w') (hT : ∀ b, b < w.heap.size → T b) => parts_any d T w' b _ (TyV.mono (fun b hb _ => hT b hb) (TyV.ext (TyV.mono (S' := fun b => b < w.heap.size) (fun b _ hi => hi.lt) HVB.out) h)) HOB.out.arr)
       have HALL : Hid (∀ f ∈ partsT a ++ partsT b, (0 ≤ f.1 ∧ f.1 ≤ 131072) ∧ bnT f.2 = true) := hid (fun f hf => by
        rcases List.mem_append.1 hf with hf | hf
        ·exact HOA.out.all f hf
        ·exact HOB.out.all f hf)
       have HLEN : Hid ((partsT a).length + (partsT b).length ≤ 100000) := hid (by have := HOA.out.len; have := HOB.out.len; omega)
       obtain ⟨P, hP⟩ : ∃ P, partsT a = P := ⟨_, rfl⟩
       obtain ⟨Q, hQ⟩ : ∃ Q, partsT b = Q := ⟨_, rfl⟩
       rw [hP] at HPTA HLEN
       rw [hQ] at HPTB HLEN
       rw [hP, hQ] at HALL HRV
       have HBN := hid (arrange_bn (p := P ++ Q) (by rw [List.length_append]; exact HLEN.out) HALL.out)
       rw [HRV.out] at HBN
       obtain ⟨pl, hpl⟩ : ∃ pl, P.length = pl := ⟨_, rfl⟩
       obtain ⟨ql, hql⟩ : ∃ ql, Q.length = ql := ⟨_, rfl⟩
       have HPL := hid hpl
       have HQL := hid hql
       clear hkb hP hQ hpl hql
       have HARC := hid (fun (T : Nat → Prop) (w' : World) (A9 : Option Addr) (c9 : Nat) (hs : Sl (fdR (tyR d)) w' T (.slice A9 (pl + ql) c9) (P ++ Q)) => by
        have h := arrange_any d T w' A9 (pl + ql) c9 (P ++ Q) hs (by have := HLEN.out; have := HPL.out; have := HQL.out; omega) HALL.out
        rw [HRV.out] at h
        exact h)
       have HCC := hid (fun (T : Nat → Prop) (w' : World) (AL : Option Addr) (hs : Sl (slR (fdR (tyR d))) w' T (.slice AL 2 2) [P, Q]) => by
        have h := concatfd_any d T w' AL 2 2 [P, Q] hs (by have := HLEN.out; simp; omega)
        rw [show [P, Q].flatten = P ++ Q by simp] at h
        exact h)
       obtain ⟨rt, re⟩ := R
       unfold TyErr at HARC
       simp only at HARC
       go_upto_region 11 with fail
       go_cut [8, 9] from 40 to 50 (fun s8 s9 wx => ∃ (aZ : Nat) (A5 : Option Addr) (n5 c5 : Nat) (B5 : Option Addr) (m5 e5 : Nat), s8 = .pointer (some ⟨aZ, 0, none⟩) ∧ s9 = .int .i64 re ∧ Hid (Ext w6 wx) ∧
        Hid (wx.cell? ⟨aZ, 0, none⟩ = some (.int .i64 rt.kind) ∧ wx.cell? ⟨aZ, 1, none⟩ = some (.int .i64 rt.size) ∧ wx.cell? ⟨aZ, 2, none⟩ = some (.int .i64 rt.count) ∧ wx.cell? ⟨aZ, 3, none⟩ = some (.slice A5 n5 c5) ∧ wx.cell? ⟨aZ, 4, none⟩ = some (.slice B5 m5 e5)) ∧
        Hid (TyV (d + 3) wx All (.agg #[.int .i64 rt.kind, .int .i64 rt.size, .int .i64 rt.count, .slice A5 n5 c5, .slice B5 m5 e5]) rt))
       case rest =>
        obtain ⟨aZ, A5, n5, c5, B5, m5, e5, rfl, rfl, HE7, HC7, HV7⟩ := hcut
        obtain ⟨W7, hW7⟩ : ∃ W7, W7 = wc := ⟨_, rfl⟩
        obtain rfl := hW7
        obtain ⟨s0, s1, s2, s3, s4⟩ := HC7.out
        have HB7 := hid (HB6.out.ext HE7.out)
        have HE7 := hid (HX6.out.trans HE7.out)
        have HOC := hid (sown_any (d + 3) W7 rt _ HV7.out HBN.out)
        go_wp2_with fail
        refine (HOC.out).mono ?_
        rintro e w8 ⟨_, rfl, ⟨A9, n9, c9, B9, m9, e9, rfl, hv9⟩, hx9⟩
        have HX9 := hid (HE7.out.trans hx9)
        have HB9 := hid (HB7.out.ext hx9)
        have HV9 := hid (show TyV (d + 3) w8 (fun b => W7.heap.size ≤ b) (.agg #[.int .i64 rt.kind, .int .i64 rt.size, .int .i64 rt.count, .slice A9 n9 c9, .slice B9 m9 e9]) rt from ⟨A9, n9, c9, B9, m9, e9, rfl, hv9⟩)
        clear hv9 hx9 s0 s1 s2 s3 s4
        have r0 := HB9.out.1
        have r1 := HB9.out.2.1
        have r2 := HB9.out.2.2.1
        have r3 := HB9.out.2.2.2.1
        have r4 := HB9.out.2.2.2.2.1
        have f0 := HB9.out.2.2.2.2.2 0
        have f1 := HB9.out.2.2.2.2.2 1
        have f2 := HB9.out.2.2.2.2.2 2
        have f3 := HB9.out.2.2.2.2.2 3
        have f4 := HB9.out.2.2.2.2.2 4
        have hc := set5_cells r0 r1 r2 r3 r4 (.int .i64 rt.kind) (.int .i64 rt.size) (.int .i64 rt.count) (.slice A9 n9 c9) (.slice B9 m9 e9)
        have hx := set5_ext HX9.out (b := w.heap.size + 1 + 1) (by omega) (.int .i64 rt.kind) (.int .i64 rt.size) (.int .i64 rt.count) (.slice A9 n9 c9) (.slice B9 m9 e9)
        obtain ⟨W6, hW6⟩ : ∃ W6, ((((w8.setCell ⟨w.heap.size + 1 + 1, 0, none⟩ (.int .i64 rt.kind)).setCell ⟨w.heap.size + 1 + 1, 1, none⟩ (.int .i64 rt.size)).setCell ⟨w.heap.size + 1 + 1, 2, none⟩ (.int .i64 rt.count)).setCell ⟨w.heap.size + 1 + 1, 3, none⟩ (.slice A9 n9 c9)).setCell ⟨w.heap.size + 1 + 1, 4, none⟩ (.slice B9 m9 e9) = W6 := ⟨_, rfl⟩
        rw [hW6] at hc hx
        obtain ⟨t0, t1, t2, t3, t4⟩ := hc
        have HX6 := hid hx
        have HW6 := hid hW6
        clear hx hW6
        go_wp2
        rw [HW6.out]
        clear r0 r1 r2 r3 r4
        refine bodyPost_ret (v := .tuple #[.agg #[.int .i64 rt.kind, .int .i64 rt.size, .int .i64 rt.count, .slice A9 n9 c9, .slice B9 m9 e9], .int .i64 re]) (by simp [results, Tryz.results27, go_sem, t0, t1, t2, t3, t4]) rfl ?_
        refine ⟨_, rfl, ?_, HX6.out⟩
        have hlt := HB7.out.lt
        refine TyV.mono (fun b hb _ => ?_) (TyV.keep (fun b hb _ => ?_) HV9.out)
        ·have hb' : W7.heap.size ≤ b := hb
         first | (show w.heap.size ≤ b; omega) | exact Or.inr (by omega)
        ·have hb' : W7.heap.size ≤ b := hb
         rw [← HW6.out]
         exact set5_heap _ _ _ _ _ _ _ (by omega)
       have HC10 := hid (And.intro o0 (And.intro o1 (And.intro o2 (And.intro o3 (And.intro o4 (And.intro u0 (And.intro u1 (And.intro u2 (And.intro u3 u4)))))))))
       have HXg91q_0 := hid ((Ext.refl w6).drew)
       refine wp_region_held_drew (S := (fun w' => w'.cell? ⟨w.heap.size, 0, none⟩ = some (.int .i64 a.kind) ∧ w'.cell? ⟨w.heap.size, 1, none⟩ = some (.int .i64 a.size) ∧ w'.cell? ⟨w.heap.size, 2, none⟩ = some (.int .i64 a.count) ∧ w'.cell? ⟨w.heap.size, 3, none⟩ = some (.slice A na ca) ∧ w'.cell? ⟨w.heap.size, 4, none⟩ = some (.slice B nb cb) ∧ w'.cell? ⟨w.heap.size + 1, 0, none⟩ = some (.int .i64 b.kind) ∧ w'.cell? ⟨w.heap.size + 1, 1, none⟩ = some (.int .i64 b.size) ∧ w'.cell? ⟨w.heap.size + 1, 2, none⟩ = some (.int .i64 b.count) ∧ w'.cell? ⟨w.heap.size + 1, 3, none⟩ = some (.slice A' na' ca') ∧ w'.cell? ⟨w.heap.size + 1, 4, none⟩ = some (.slice B' nb' cb'))) (by kernel_rfl) ⟨o0, o1, o2, o3, o4, u0, u1, u2, u3, u4⟩ (fun hSg91q0 => ?_)
       refine rgT2 0 2 ?_
       refine wpAnyH_ready (rs := [1, 10]) (by kernel_rfl) (by simp) ?_
       refine (AllReadyH.consL rfl (fun K hK => ?g91qb1x3) (AllReadyH.consL rfl (fun K hK => ?g91qb10x3) AllReadyH.nil))
       case' g91qb1x3 =>
        go_simp
        go_at_call 59
        first | refine (HPTA.out (fun b => b ≠ aZ) _ (HX6.out.trans HXg91q_0.out) (fun b hb => by have := HZB.out.ge; have := HX6.out.size; omega)).mono ?_ | refine (HPTA.out All _ (HX6.out.trans HXg91q_0.out) (fun _ _ => trivial)).mono ?_
        rintro e w7 ⟨A7, c7, rfl, hs7, hEg91q1⟩
        rw [HPL.out] at hs7
        rw [HPL.out]
        first | have HS7 := hid (hs7.mono (S' := fun b => b ≠ aZ) fun b hb _ => hb.elim id fun h => by have := HZB.out.bx.lt; omega) | have HS7 := hid hs7.all
        clear hs7
        have HXg91q_1 := hid (HXg91q_0.out.trans hEg91q1)
        clear hEg91q1
        refine rgK hK (ext10c HC10.out HXg91q_1.out) (fun hSg91q1 => ?_)
        clear hK K
        refine wpAnyH_ready (rs := [3, 10]) (by kernel_rfl) (by simp) ?_
        refine (AllReadyH.consL rfl (fun K hK => ?g91qb3x4) (AllReadyH.consL rfl (fun K hK => ?g91qb10x4) AllReadyH.nil))
        case' g91qb3x4 =>
         go_simp
         go_at_call 59
         first | refine (HPTB.out (fun b => b ≠ aZ) _ (HX6.out.trans HXg91q_1.out) (fun b hb => by have := HZB.out.ge; have := HX6.out.size; omega)).mono ?_ | refine (HPTB.out All _ (HX6.out.trans HXg91q_1.out) (fun _ _ => trivial)).mono ?_
         rintro e w8 ⟨A8, c8, rfl, hs8, hEg91q2⟩
         rw [HQL.out] at hs8
         rw [HQL.out]
         first | have HS8 := hid (hs8.mono (S' := fun b => b ≠ aZ) fun b hb _ => hb.elim id fun h => by have := HZB.out.bx.lt; omega) | have HS8 := hid hs8.all
         clear hs8
         have HXg91q_2 := hid (HXg91q_1.out.trans hEg91q2)
         have HS7 := hid (HS7.out.ext hEg91q2)
         clear hEg91q2
         refine rgK hK (ext10c HC10.out HXg91q_2.out) (fun hSg91q2 => ?_)
         clear hK K
         refine wpAnyH_ready (rs := [4, 10]) (by kernel_rfl) (by simp) ?_
         refine (AllReadyH.consL rfl (fun K hK => ?g91qb4x5) (AllReadyH.consL rfl (fun K hK => ?g91qb10x5) AllReadyH.nil))
         case' g91qb4x5 =>
          go_simp
          first | have hst := sl_two HS7.out HS8.out (T := fun b => b ≠ aZ) (by have := HZB.out.bx.lt; omega) | have hst := sl_two HS7.out HS8.out (T := All) trivial
          obtain ⟨wL, aL, hA1, hsz, hEg91q3, -⟩ := extAlloc HXg91q_2.out (.cells #[.slice A7 pl c7, .slice A8 ql c8] 23)
          rw [hA1, hsz] at hst
          have HST' := hid hst
          refine Eq.mpr (congrArg (K _) hA1) ?_
          first | rw [hsz] | skip
          have HST := HST'
          clear hA1 hsz hst
          have HXg91q_3 := hid (HXg91q_2.out.trans hEg91q3)
          have HS7 := hid (HS7.out.ext hEg91q3)
          have HS8 := hid (HS8.out.ext hEg91q3)
          clear hEg91q3
          refine rgK hK (ext10c HC10.out HXg91q_3.out) (fun hSg91q3 => ?_)
          clear hK K
          refine wpAnyH_ready (rs := [5, 10]) (by kernel_rfl) (by simp) ?_
          refine (AllReadyH.consL rfl (fun K hK => ?g91qb5x6) (AllReadyH.consL rfl (fun K hK => ?g91qb10x6) AllReadyH.nil))
          case' g91qb5x6 =>
           go_simp
           go_at_call 58
           refine (HCC.out _ _ _ HST.out).mono ?_
           rintro e w9 ⟨hEg91q4, A9, c9, rfl, ho9⟩
           first | have hs9 := ho9.slT (S := fun b => b ≠ aZ) (fun b hb => hb) (fun b hb => by have h1 := (ho9.block b hb).1; have := HZB.out.bx.lt; omega) | have hs9 := ho9.sl
           rw [List.length_append, HPL.out, HQL.out] at hs9
           have HS9 := hid hs9
           clear ho9 hs9
           rw [List.length_append, HPL.out, HQL.out]
           have HXg91q_4 := hid (HXg91q_3.out.trans hEg91q4)
           have HS7 := hid (HS7.out.ext hEg91q4)
           have HS8 := hid (HS8.out.ext hEg91q4)
           have HST := hid (HST.out.ext hEg91q4)
           clear hEg91q4
           refine rgK hK (ext10c HC10.out HXg91q_4.out) (fun hSg91q4 => ?_)
           clear hK K
           refine wpAnyH_ready (rs := [6, 10]) (by kernel_rfl) (by simp) ?_
           refine (AllReadyH.consL rfl (fun K hK => ?g91qb6x7) (AllReadyH.consL rfl (fun K hK => ?g91qb10x7) AllReadyH.nil))
           case' g91qb6x7 =>
            go_simp
            go_at_call 40
            refine (HARC.out _ _ A9 c9 HS9.out).mono ?_
            rintro e w10 ⟨_, rfl, ⟨A5, n5, c5, B5, m5, e5, rfl, hv5⟩, hEg91q5⟩
            first | have HV10 := hid (TyV.mono (S' := fun b => b ≠ aZ) (fun b hb _ => hb.elim id fun h => by have := HZB.out.bx.lt; omega) ⟨A5, n5, c5, B5, m5, e5, rfl, hv5⟩) | have HV10 := hid (TyV.all ⟨A5, n5, c5, B5, m5, e5, rfl, hv5⟩)
            clear hv5
            have HXg91q_5 := hid (HXg91q_4.out.trans hEg91q5)
            have HS7 := hid (HS7.out.ext hEg91q5)
            have HS8 := hid (HS8.out.ext hEg91q5)
            have HST := hid (HST.out.ext hEg91q5)
            have HS9 := hid (HS9.out.ext hEg91q5)
            clear hEg91q5
            refine rgK hK (ext10c HC10.out HXg91q_5.out) (fun hSg91q5 => ?_)
            clear hK K
            refine rgT3 7 8 9 ?_
            refine wpAnyH_ready (rs := [10]) (by kernel_rfl) (by simp) ?_
            refine (AllReadyH.consL rfl (fun K hK => ?g91qb10x11) AllReadyH.nil)
            case' g91qb10x11 =>
             go_simp
             obtain ⟨wL, aZ, hA1, hsz, hEg91q6, hge, hob⟩ := extAllocT HXg91q_5.out
             refine Eq.mpr (congrArg (K _) hA1) ?_
             first | rw [hsz] | (have hq : w6.heap.size = aZ := hsz; rw [hq]; clear hq) | skip
             have HZB := hid (show ZTy w6.heap.size aZ wL from ⟨hob, hge⟩)
             try have HS7 := hid (HS7.out.mono (S' := fun b => b ≠ aZ) fun b _ hi => by have := hi.lt; omega)
             try have HS8 := hid (HS8.out.mono (S' := fun b => b ≠ aZ) fun b _ hi => by have := hi.lt; omega)
             try have HST := hid (HST.out.mono (S' := fun b => b ≠ aZ) fun b _ hi => by have := hi.lt; omega)
             try have HS9 := hid (HS9.out.mono (S' := fun b => b ≠ aZ) fun b _ hi => by have := hi.lt; omega)
             try have HV10 := hid (TyV.mono (S' := fun b => b ≠ aZ) (fun b _ hi => by have := hi.lt; omega) HV10.out)
             clear hA1 hsz hge hob
             have HXg91q_6 := hid (HXg91q_5.out.trans hEg91q6)
             have HS7 := hid (HS7.out.ext hEg91q6)
             have HS8 := hid (HS8.out.ext hEg91q6)
             have HST := hid (HST.out.ext hEg91q6)
             have HS9 := hid (HS9.out.ext hEg91q6)
             have HV10 := hid (HV10.out.ext hEg91q6)
             clear hEg91q6
             refine rgK hK (ext10c HC10.out HXg91q_6.out) (fun hSg91q6 => ?_)
             clear hK K
             refine wpAnyH_ready (rs := [11]) (by kernel_rfl) (by simp) ?_
             refine (AllReadyH.consL rfl (fun K hK => ?g91qb11x12) AllReadyH.nil)
             case' g91qb11x12 =>
              have HXend := HXg91q_6
              have y0 := HZB.out.bx.1
              have y1 := HZB.out.bx.2.1
              have y2 := HZB.out.bx.2.2.1
              have y3 := HZB.out.bx.2.2.2.1
              have y4 := HZB.out.bx.2.2.2.2.1
              have yf0 := HZB.out.bx.2.2.2.2.2 0
              have yf1 := HZB.out.bx.2.2.2.2.2 1
              have yf2 := HZB.out.bx.2.2.2.2.2 2
              have yf3 := HZB.out.bx.2.2.2.2.2 3
              have yf4 := HZB.out.bx.2.2.2.2.2 4
              go_simp
              refine rgK hK (ext10c HC10.out (((((HXg91q_6.out.setCell HZB.out.ge _).setCell HZB.out.ge _).setCell HZB.out.ge _).setCell HZB.out.ge _).setCell HZB.out.ge _)) (fun hSg91q7 => ?_)
              clear hK K
              refine rgT 12 ?_
              refine wpAnyH_done (by kernel_rfl) ?_ _
              obtain ⟨W7, hW7, hE7, hc7, hv7⟩ := putT HXend.out HZB.out (Nat.le_refl _) HV10.out
              rw [hW7]
              go_wp2
              go_meet
              exact ⟨_, _, _, _, _, _, _, rfl, rfl, hid hE7, hid hc7, hid hv7⟩
           case' g91qb10x7 =>
            go_simp
            obtain ⟨wL, aZ, hA1, hsz, hEg91q5, hge, hob⟩ := extAllocT HXg91q_4.out
            refine Eq.mpr (congrArg (K _) hA1) ?_
            first | rw [hsz] | (have hq : w6.heap.size = aZ := hsz; rw [hq]; clear hq) | skip
            have HZB := hid (show ZTy w6.heap.size aZ wL from ⟨hob, hge⟩)
            try have HS7 := hid (HS7.out.mono (S' := fun b => b ≠ aZ) fun b _ hi => by have := hi.lt; omega)
            try have HS8 := hid (HS8.out.mono (S' := fun b => b ≠ aZ) fun b _ hi => by have := hi.lt; omega)
            try have HST := hid (HST.out.mono (S' := fun b => b ≠ aZ) fun b _ hi => by have := hi.lt; omega)
            try have HS9 := hid (HS9.out.mono (S' := fun b => b ≠ aZ) fun b _ hi => by have := hi.lt; omega)
            try have HV10 := hid (TyV.mono (S' := fun b => b ≠ aZ) (fun b _ hi => by have := hi.lt; omega) HV10.out)
            clear hA1 hsz hge hob
            have HXg91q_5 := hid (HXg91q_4.out.trans hEg91q5)
            have HS7 := hid (HS7.out.ext hEg91q5)
            have HS8 := hid (HS8.out.ext hEg91q5)
            have HST := hid (HST.out.ext hEg91q5)
            have HS9 := hid (HS9.out.ext hEg91q5)
            clear hEg91q5
            refine rgK hK (ext10c HC10.out HXg91q_5.out) (fun hSg91q5 => ?_)
            clear hK K
            refine wpAnyH_ready (rs := [6]) (by kernel_rfl) (by simp) ?_
            refine (AllReadyH.consL rfl (fun K hK => ?g91qb6x14) AllReadyH.nil)
            case' g91qb6x14 =>
             go_simp
             go_at_call 40
             refine (HARC.out _ _ A9 c9 HS9.out).mono ?_
             rintro e w10 ⟨_, rfl, ⟨A5, n5, c5, B5, m5, e5, rfl, hv5⟩, hEg91q6⟩
             first | have HV10 := hid (TyV.mono (S' := fun b => b ≠ aZ) (fun b hb _ => hb.elim id fun h => by have := HZB.out.bx.lt; omega) ⟨A5, n5, c5, B5, m5, e5, rfl, hv5⟩) | have HV10 := hid (TyV.all ⟨A5, n5, c5, B5, m5, e5, rfl, hv5⟩)
             clear hv5
             have HXg91q_6 := hid (HXg91q_5.out.trans hEg91q6)
             have HS7 := hid (HS7.out.ext hEg91q6)
             have HS8 := hid (HS8.out.ext hEg91q6)
             have HST := hid (HST.out.ext hEg91q6)
             have HS9 := hid (HS9.out.ext hEg91q6)
             have HZB := hid (HZB.out.ext hEg91q6)
             clear hEg91q6
             refine rgK hK (ext10c HC10.out HXg91q_6.out) (fun hSg91q6 => ?_)
             clear hK K
             refine rgT3 7 8 9 ?_
             refine wpAnyH_ready (rs := [11]) (by kernel_rfl) (by simp) ?_
             refine (AllReadyH.consL rfl (fun K hK => ?g91qb11x18) AllReadyH.nil)
             case' g91qb11x18 =>
              have HXend := HXg91q_6
              have y0 := HZB.out.bx.1
              have y1 := HZB.out.bx.2.1
              have y2 := HZB.out.bx.2.2.1
              have y3 := HZB.out.bx.2.2.2.1
              have y4 := HZB.out.bx.2.2.2.2.1
              have yf0 := HZB.out.bx.2.2.2.2.2 0
              have yf1 := HZB.out.bx.2.2.2.2.2 1
              have yf2 := HZB.out.bx.2.2.2.2.2 2
              have yf3 := HZB.out.bx.2.2.2.2.2 3
              have yf4 := HZB.out.bx.2.2.2.2.2 4
              go_simp
              refine rgK hK (ext10c HC10.out (((((HXg91q_6.out.setCell HZB.out.ge _).setCell HZB.out.ge _).setCell HZB.out.ge _).setCell HZB.out.ge _).setCell HZB.out.ge _)) (fun hSg91q7 => ?_)
              clear hK K
              refine rgT 12 ?_
              refine wpAnyH_done (by kernel_rfl) ?_ _
              obtain ⟨W7, hW7, hE7, hc7, hv7⟩ := putT HXend.out HZB.out (Nat.le_refl _) HV10.out
              rw [hW7]
              go_wp2
              go_meet
              exact ⟨_, _, _, _, _, _, _, rfl, rfl, hid hE7, hid hc7, hid hv7⟩
          case' g91qb10x6 =>
           go_simp
           obtain ⟨wL, aZ, hA1, hsz, hEg91q4, hge, hob⟩ := extAllocT HXg91q_3.out
           refine Eq.mpr (congrArg (K _) hA1) ?_
           first | rw [hsz] | (have hq : w6.heap.size = aZ := hsz; rw [hq]; clear hq) | skip
           have HZB := hid (show ZTy w6.heap.size aZ wL from ⟨hob, hge⟩)
           try have HS7 := hid (HS7.out.mono (S' := fun b => b ≠ aZ) fun b _ hi => by have := hi.lt; omega)
           try have HS8 := hid (HS8.out.mono (S' := fun b => b ≠ aZ) fun b _ hi => by have := hi.lt; omega)
           try have HST := hid (HST.out.mono (S' := fun b => b ≠ aZ) fun b _ hi => by have := hi.lt; omega)
           try have HS9 := hid (HS9.out.mono (S' := fun b => b ≠ aZ) fun b _ hi => by have := hi.lt; omega)
           try have HV10 := hid (TyV.mono (S' := fun b => b ≠ aZ) (fun b _ hi => by have := hi.lt; omega) HV10.out)
           clear hA1 hsz hge hob
           have HXg91q_4 := hid (HXg91q_3.out.trans hEg91q4)
           have HS7 := hid (HS7.out.ext hEg91q4)
           have HS8 := hid (HS8.out.ext hEg91q4)
           have HST := hid (HST.out.ext hEg91q4)
           clear hEg91q4
           refine rgK hK (ext10c HC10.out HXg91q_4.out) (fun hSg91q4 => ?_)
           clear hK K
           refine wpAnyH_ready (rs := [5]) (by kernel_rfl) (by simp) ?_
           refine (AllReadyH.consL rfl (fun K hK => ?g91qb5x20) AllReadyH.nil)
           case' g91qb5x20 =>
            go_simp
            go_at_call 58
            refine (HCC.out _ _ _ HST.out).mono ?_
            rintro e w9 ⟨hEg91q5, A9, c9, rfl, ho9⟩
            first | have hs9 := ho9.slT (S := fun b => b ≠ aZ) (fun b hb => hb) (fun b hb => by have h1 := (ho9.block b hb).1; have := HZB.out.bx.lt; omega) | have hs9 := ho9.sl
            rw [List.length_append, HPL.out, HQL.out] at hs9
            have HS9 := hid hs9
            clear ho9 hs9
            rw [List.length_append, HPL.out, HQL.out]
            have HXg91q_5 := hid (HXg91q_4.out.trans hEg91q5)
            have HS7 := hid (HS7.out.ext hEg91q5)
            have HS8 := hid (HS8.out.ext hEg91q5)
            have HST := hid (HST.out.ext hEg91q5)
            have HZB := hid (HZB.out.ext hEg91q5)
            clear hEg91q5
            refine rgK hK (ext10c HC10.out HXg91q_5.out) (fun hSg91q5 => ?_)
            clear hK K
            refine wpAnyH_ready (rs := [6]) (by kernel_rfl) (by simp) ?_
            refine (AllReadyH.consL rfl (fun K hK => ?g91qb6x21) AllReadyH.nil)
            case' g91qb6x21 =>
             go_simp
             go_at_call 40
             refine (HARC.out _ _ A9 c9 HS9.out).mono ?_
             rintro e w10 ⟨_, rfl, ⟨A5, n5, c5, B5, m5, e5, rfl, hv5⟩, hEg91q6⟩
             first | have HV10 := hid (TyV.mono (S' := fun b => b ≠ aZ) (fun b hb _ => hb.elim id fun h => by have := HZB.out.bx.lt; omega) ⟨A5, n5, c5, B5, m5, e5, rfl, hv5⟩) | have HV10 := hid (TyV.all ⟨A5, n5, c5, B5, m5, e5, rfl, hv5⟩)
             clear hv5
             have HXg91q_6 := hid (HXg91q_5.out.trans hEg91q6)
             have HS7 := hid (HS7.out.ext hEg91q6)
             have HS8 := hid (HS8.out.ext hEg91q6)
             have HST := hid (HST.out.ext hEg91q6)
             have HZB := hid (HZB.out.ext hEg91q6)
             have HS9 := hid (HS9.out.ext hEg91q6)
             clear hEg91q6
             refine rgK hK (ext10c HC10.out HXg91q_6.out) (fun hSg91q6 => ?_)
             clear hK K
             refine rgT3 7 8 9 ?_
             refine wpAnyH_ready (rs := [11]) (by kernel_rfl) (by simp) ?_
             refine (AllReadyH.consL rfl (fun K hK => ?g91qb11x25) AllReadyH.nil)
             case' g91qb11x25 =>
              have HXend := HXg91q_6
              have y0 := HZB.out.bx.1
              have y1 := HZB.out.bx.2.1
              have y2 := HZB.out.bx.2.2.1
              have y3 := HZB.out.bx.2.2.2.1
              have y4 := HZB.out.bx.2.2.2.2.1
              have yf0 := HZB.out.bx.2.2.2.2.2 0
              have yf1 := HZB.out.bx.2.2.2.2.2 1
              have yf2 := HZB.out.bx.2.2.2.2.2 2
              have yf3 := HZB.out.bx.2.2.2.2.2 3
              have yf4 := HZB.out.bx.2.2.2.2.2 4
              go_simp
              refine rgK hK (ext10c HC10.out (((((HXg91q_6.out.setCell HZB.out.ge _).setCell HZB.out.ge _).setCell HZB.out.ge _).setCell HZB.out.ge _).setCell HZB.out.ge _)) (fun hSg91q7 => ?_)
              clear hK K
              refine rgT 12 ?_
              refine wpAnyH_done (by kernel_rfl) ?_ _
              obtain ⟨W7, hW7, hE7, hc7, hv7⟩ := putT HXend.out HZB.out (Nat.le_refl _) HV10.out
              rw [hW7]
              go_wp2
              go_meet
              exact ⟨_, _, _, _, _, _, _, rfl, rfl, hid hE7, hid hc7, hid hv7⟩
         case' g91qb10x5 =>
          go_simp
          obtain ⟨wL, aZ, hA1, hsz, hEg91q3, hge, hob⟩ := extAllocT HXg91q_2.out
          refine Eq.mpr (congrArg (K _) hA1) ?_
          first | rw [hsz] | (have hq : w6.heap.size = aZ := hsz; rw [hq]; clear hq) | skip
          have HZB := hid (show ZTy w6.heap.size aZ wL from ⟨hob, hge⟩)
          try have HS7 := hid (HS7.out.mono (S' := fun b => b ≠ aZ) fun b _ hi => by have := hi.lt; omega)
          try have HS8 := hid (HS8.out.mono (S' := fun b => b ≠ aZ) fun b _ hi => by have := hi.lt; omega)
          try have HST := hid (HST.out.mono (S' := fun b => b ≠ aZ) fun b _ hi => by have := hi.lt; omega)
          try have HS9 := hid (HS9.out.mono (S' := fun b => b ≠ aZ) fun b _ hi => by have := hi.lt; omega)
          try have HV10 := hid (TyV.mono (S' := fun b => b ≠ aZ) (fun b _ hi => by have := hi.lt; omega) HV10.out)
          clear hA1 hsz hge hob
          have HXg91q_3 := hid (HXg91q_2.out.trans hEg91q3)
          have HS7 := hid (HS7.out.ext hEg91q3)
          have HS8 := hid (HS8.out.ext hEg91q3)
          clear hEg91q3
          refine rgK hK (ext10c HC10.out HXg91q_3.out) (fun hSg91q3 => ?_)
          clear hK K
          refine wpAnyH_ready (rs := [4]) (by kernel_rfl) (by simp) ?_
          refine (AllReadyH.consL rfl (fun K hK => ?g91qb4x27) AllReadyH.nil)
          case' g91qb4x27 =>
           go_simp
           first | have hst := sl_two HS7.out HS8.out (T := fun b => b ≠ aZ) (by have := HZB.out.bx.lt; omega) | have hst := sl_two HS7.out HS8.out (T := All) trivial
           obtain ⟨wL, aL, hA1, hsz, hEg91q4, -⟩ := extAlloc HXg91q_3.out (.cells #[.slice A7 pl c7, .slice A8 ql c8] 23)
           rw [hA1, hsz] at hst
           have HST' := hid hst
           refine Eq.mpr (congrArg (K _) hA1) ?_
           first | rw [hsz] | skip
           have HST := HST'
           clear hA1 hsz hst
           have HXg91q_4 := hid (HXg91q_3.out.trans hEg91q4)
           have HS7 := hid (HS7.out.ext hEg91q4)
           have HS8 := hid (HS8.out.ext hEg91q4)
           have HZB := hid (HZB.out.ext hEg91q4)
           clear hEg91q4
           refine rgK hK (ext10c HC10.out HXg91q_4.out) (fun hSg91q4 => ?_)
           clear hK K
           refine wpAnyH_ready (rs := [5]) (by kernel_rfl) (by simp) ?_
           refine (AllReadyH.consL rfl (fun K hK => ?g91qb5x28) AllReadyH.nil)
           case' g91qb5x28 =>
            go_simp
            go_at_call 58
            refine (HCC.out _ _ _ HST.out).mono ?_
            rintro e w9 ⟨hEg91q5, A9, c9, rfl, ho9⟩
            first | have hs9 := ho9.slT (S := fun b => b ≠ aZ) (fun b hb => hb) (fun b hb => by have h1 := (ho9.block b hb).1; have := HZB.out.bx.lt; omega) | have hs9 := ho9.sl
            rw [List.length_append, HPL.out, HQL.out] at hs9
            have HS9 := hid hs9
            clear ho9 hs9
            rw [List.length_append, HPL.out, HQL.out]
            have HXg91q_5 := hid (HXg91q_4.out.trans hEg91q5)
            have HS7 := hid (HS7.out.ext hEg91q5)
            have HS8 := hid (HS8.out.ext hEg91q5)
            have HZB := hid (HZB.out.ext hEg91q5)
            have HST := hid (HST.out.ext hEg91q5)
            clear hEg91q5
            refine rgK hK (ext10c HC10.out HXg91q_5.out) (fun hSg91q5 => ?_)
            clear hK K
            refine wpAnyH_ready (rs := [6]) (by kernel_rfl) (by simp) ?_
            refine (AllReadyH.consL rfl (fun K hK => ?g91qb6x29) AllReadyH.nil)
            case' g91qb6x29 =>
             go_simp
             go_at_call 40
             refine (HARC.out _ _ A9 c9 HS9.out).mono ?_
             rintro e w10 ⟨_, rfl, ⟨A5, n5, c5, B5, m5, e5, rfl, hv5⟩, hEg91q6⟩
             first | have HV10 := hid (TyV.mono (S' := fun b => b ≠ aZ) (fun b hb _ => hb.elim id fun h => by have := HZB.out.bx.lt; omega) ⟨A5, n5, c5, B5, m5, e5, rfl, hv5⟩) | have HV10 := hid (TyV.all ⟨A5, n5, c5, B5, m5, e5, rfl, hv5⟩)
             clear hv5
             have HXg91q_6 := hid (HXg91q_5.out.trans hEg91q6)
             have HS7 := hid (HS7.out.ext hEg91q6)
             have HS8 := hid (HS8.out.ext hEg91q6)
             have HZB := hid (HZB.out.ext hEg91q6)
             have HST := hid (HST.out.ext hEg91q6)
             have HS9 := hid (HS9.out.ext hEg91q6)
             clear hEg91q6
             refine rgK hK (ext10c HC10.out HXg91q_6.out) (fun hSg91q6 => ?_)
             clear hK K
             refine rgT3 7 8 9 ?_
             refine wpAnyH_ready (rs := [11]) (by kernel_rfl) (by simp) ?_
             refine (AllReadyH.consL rfl (fun K hK => ?g91qb11x33) AllReadyH.nil)
             case' g91qb11x33 =>
              have HXend := HXg91q_6
              have y0 := HZB.out.bx.1
              have y1 := HZB.out.bx.2.1
              have y2 := HZB.out.bx.2.2.1
              have y3 := HZB.out.bx.2.2.2.1
              have y4 := HZB.out.bx.2.2.2.2.1
              have yf0 := HZB.out.bx.2.2.2.2.2 0
              have yf1 := HZB.out.bx.2.2.2.2.2 1
              have yf2 := HZB.out.bx.2.2.2.2.2 2
              have yf3 := HZB.out.bx.2.2.2.2.2 3
              have yf4 := HZB.out.bx.2.2.2.2.2 4
              go_simp
              refine rgK hK (ext10c HC10.out (((((HXg91q_6.out.setCell HZB.out.ge _).setCell HZB.out.ge _).setCell HZB.out.ge _).setCell HZB.out.ge _).setCell HZB.out.ge _)) (fun hSg91q7 => ?_)
              clear hK K
              refine rgT 12 ?_
              refine wpAnyH_done (by kernel_rfl) ?_ _
              obtain ⟨W7, hW7, hE7, hc7, hv7⟩ := putT HXend.out HZB.out (Nat.le_refl _) HV10.out
              rw [hW7]
              go_wp2
              go_meet
              exact ⟨_, _, _, _, _, _, _, rfl, rfl, hid hE7, hid hc7, hid hv7⟩
        case' g91qb10x4 =>
         go_simp
         obtain ⟨wL, aZ, hA1, hsz, hEg91q2, hge, hob⟩ := extAllocT HXg91q_1.out
         refine Eq.mpr (congrArg (K _) hA1) ?_
         first | rw [hsz] | (have hq : w6.heap.size = aZ := hsz; rw [hq]; clear hq) | skip
         have HZB := hid (show ZTy w6.heap.size aZ wL from ⟨hob, hge⟩)
         try have HS7 := hid (HS7.out.mono (S' := fun b => b ≠ aZ) fun b _ hi => by have := hi.lt; omega)
         try have HS8 := hid (HS8.out.mono (S' := fun b => b ≠ aZ) fun b _ hi => by have := hi.lt; omega)
         try have HST := hid (HST.out.mono (S' := fun b => b ≠ aZ) fun b _ hi => by have := hi.lt; omega)
         try have HS9 := hid (HS9.out.mono (S' := fun b => b ≠ aZ) fun b _ hi => by have := hi.lt; omega)
         try have HV10 := hid (TyV.mono (S' := fun b => b ≠ aZ) (fun b _ hi => by have := hi.lt; omega) HV10.out)
         clear hA1 hsz hge hob
         have HXg91q_2 := hid (HXg91q_1.out.trans hEg91q2)
         have HS7 := hid (HS7.out.ext hEg91q2)
         clear hEg91q2
         refine rgK hK (ext10c HC10.out HXg91q_2.out) (fun hSg91q2 => ?_)
         clear hK K
         refine wpAnyH_ready (rs := [3]) (by kernel_rfl) (by simp) ?_
         refine (AllReadyH.consL rfl (fun K hK => ?g91qb3x35) AllReadyH.nil)
         case' g91qb3x35 =>
          go_simp
          go_at_call 59
          first | refine (HPTB.out (fun b => b ≠ aZ) _ (HX6.out.trans HXg91q_2.out) (fun b hb => by have := HZB.out.ge; have := HX6.out.size; omega)).mono ?_ | refine (HPTB.out All _ (HX6.out.trans HXg91q_2.out) (fun _ _ => trivial)).mono ?_
          rintro e w8 ⟨A8, c8, rfl, hs8, hEg91q3⟩
          rw [HQL.out] at hs8
          rw [HQL.out]
          first | have HS8 := hid (hs8.mono (S' := fun b => b ≠ aZ) fun b hb _ => hb.elim id fun h => by have := HZB.out.bx.lt; omega) | have HS8 := hid hs8.all
          clear hs8
          have HXg91q_3 := hid (HXg91q_2.out.trans hEg91q3)
          have HS7 := hid (HS7.out.ext hEg91q3)
          have HZB := hid (HZB.out.ext hEg91q3)
          clear hEg91q3
          refine rgK hK (ext10c HC10.out HXg91q_3.out) (fun hSg91q3 => ?_)
          clear hK K
          refine wpAnyH_ready (rs := [4]) (by kernel_rfl) (by simp) ?_
          refine (AllReadyH.consL rfl (fun K hK => ?g91qb4x36) AllReadyH.nil)
          case' g91qb4x36 =>
           go_simp
           first | have hst := sl_two HS7.out HS8.out (T := fun b => b ≠ aZ) (by have := HZB.out.bx.lt; omega) | have hst := sl_two HS7.out HS8.out (T := All) trivial
           obtain ⟨wL, aL, hA1, hsz, hEg91q4, -⟩ := extAlloc HXg91q_3.out (.cells #[.slice A7 pl c7, .slice A8 ql c8] 23)
           rw [hA1, hsz] at hst
           have HST' := hid hst
           refine Eq.mpr (congrArg (K _) hA1) ?_
           first | rw [hsz] | skip
           have HST := HST'
           clear hA1 hsz hst
           have HXg91q_4 := hid (HXg91q_3.out.trans hEg91q4)
           have HS7 := hid (HS7.out.ext hEg91q4)
           have HZB := hid (HZB.out.ext hEg91q4)
           have HS8 := hid (HS8.out.ext hEg91q4)
           clear hEg91q4
           refine rgK hK (ext10c HC10.out HXg91q_4.out) (fun hSg91q4 => ?_)
           clear hK K
           refine wpAnyH_ready (rs := [5]) (by kernel_rfl) (by simp) ?_
           refine (AllReadyH.consL rfl (fun K hK => ?g91qb5x37) AllReadyH.nil)
           case' g91qb5x37 =>
            go_simp
            go_at_call 58
            refine (HCC.out _ _ _ HST.out).mono ?_
            rintro e w9 ⟨hEg91q5, A9, c9, rfl, ho9⟩
            first | have hs9 := ho9.slT (S := fun b => b ≠ aZ) (fun b hb => hb) (fun b hb => by have h1 := (ho9.block b hb).1; have := HZB.out.bx.lt; omega) | have hs9 := ho9.sl
            rw [List.length_append, HPL.out, HQL.out] at hs9
            have HS9 := hid hs9
            clear ho9 hs9
            rw [List.length_append, HPL.out, HQL.out]
            have HXg91q_5 := hid (HXg91q_4.out.trans hEg91q5)
            have HS7 := hid (HS7.out.ext hEg91q5)
            have HZB := hid (HZB.out.ext hEg91q5)
            have HS8 := hid (HS8.out.ext hEg91q5)
            have HST := hid (HST.out.ext hEg91q5)
            clear hEg91q5
            refine rgK hK (ext10c HC10.out HXg91q_5.out) (fun hSg91q5 => ?_)
            clear hK K
            refine wpAnyH_ready (rs := [6]) (by kernel_rfl) (by simp) ?_
            refine (AllReadyH.consL rfl (fun K hK => ?g91qb6x38) AllReadyH.nil)
            case' g91qb6x38 =>
             go_simp
             go_at_call 40
             refine (HARC.out _ _ A9 c9 HS9.out).mono ?_
             rintro e w10 ⟨_, rfl, ⟨A5, n5, c5, B5, m5, e5, rfl, hv5⟩, hEg91q6⟩
             first | have HV10 := hid (TyV.mono (S' := fun b => b ≠ aZ) (fun b hb _ => hb.elim id fun h => by have := HZB.out.bx.lt; omega) ⟨A5, n5, c5, B5, m5, e5, rfl, hv5⟩) | have HV10 := hid (TyV.all ⟨A5, n5, c5, B5, m5, e5, rfl, hv5⟩)
             clear hv5
             have HXg91q_6 := hid (HXg91q_5.out.trans hEg91q6)
             have HS7 := hid (HS7.out.ext hEg91q6)
             have HZB := hid (HZB.out.ext hEg91q6)
             have HS8 := hid (HS8.out.ext hEg91q6)
             have HST := hid (HST.out.ext hEg91q6)
             have HS9 := hid (HS9.out.ext hEg91q6)
             clear hEg91q6
             refine rgK hK (ext10c HC10.out HXg91q_6.out) (fun hSg91q6 => ?_)
             clear hK K
             refine rgT3 7 8 9 ?_
             refine wpAnyH_ready (rs := [11]) (by kernel_rfl) (by simp) ?_
             refine (AllReadyH.consL rfl (fun K hK => ?g91qb11x42) AllReadyH.nil)
             case' g91qb11x42 =>
              have HXend := HXg91q_6
              have y0 := HZB.out.bx.1
              have y1 := HZB.out.bx.2.1
              have y2 := HZB.out.bx.2.2.1
              have y3 := HZB.out.bx.2.2.2.1
              have y4 := HZB.out.bx.2.2.2.2.1
              have yf0 := HZB.out.bx.2.2.2.2.2 0
              have yf1 := HZB.out.bx.2.2.2.2.2 1
              have yf2 := HZB.out.bx.2.2.2.2.2 2
              have yf3 := HZB.out.bx.2.2.2.2.2 3
              have yf4 := HZB.out.bx.2.2.2.2.2 4
              go_simp
              refine rgK hK (ext10c HC10.out (((((HXg91q_6.out.setCell HZB.out.ge _).setCell HZB.out.ge _).setCell HZB.out.ge _).setCell HZB.out.ge _).setCell HZB.out.ge _)) (fun hSg91q7 => ?_)
              clear hK K
              refine rgT 12 ?_
              refine wpAnyH_done (by kernel_rfl) ?_ _
              obtain ⟨W7, hW7, hE7, hc7, hv7⟩ := putT HXend.out HZB.out (Nat.le_refl _) HV10.out
              rw [hW7]
              go_wp2
              go_meet
              exact ⟨_, _, _, _, _, _, _, rfl, rfl, hid hE7, hid hc7, hid hv7⟩
       case' g91qb10x3 =>
        go_simp
        obtain ⟨wL, aZ, hA1, hsz, hEg91q1, hge, hob⟩ := extAllocT HXg91q_0.out
        refine Eq.mpr (congrArg (K _) hA1) ?_
        first | rw [hsz] | (have hq : w6.heap.size = aZ := hsz; rw [hq]; clear hq) | skip
        have HZB := hid (show ZTy w6.heap.size aZ wL from ⟨hob, hge⟩)
        try have HS7 := hid (HS7.out.mono (S' := fun b => b ≠ aZ) fun b _ hi => by have := hi.lt; omega)
        try have HS8 := hid (HS8.out.mono (S' := fun b => b ≠ aZ) fun b _ hi => by have := hi.lt; omega)
        try have HST := hid (HST.out.mono (S' := fun b => b ≠ aZ) fun b _ hi => by have := hi.lt; omega)
        try have HS9 := hid (HS9.out.mono (S' := fun b => b ≠ aZ) fun b _ hi => by have := hi.lt; omega)
        try have HV10 := hid (TyV.mono (S' := fun b => b ≠ aZ) (fun b _ hi => by have := hi.lt; omega) HV10.out)
        clear hA1 hsz hge hob
        have HXg91q_1 := hid (HXg91q_0.out.trans hEg91q1)
        clear hEg91q1
        refine rgK hK (ext10c HC10.out HXg91q_1.out) (fun hSg91q1 => ?_)
        clear hK K
        refine wpAnyH_ready (rs := [1]) (by kernel_rfl) (by simp) ?_
        refine (AllReadyH.consL rfl (fun K hK => ?g91qb1x44) AllReadyH.nil)
        case' g91qb1x44 =>
         go_simp
         go_at_call 59
         first | refine (HPTA.out (fun b => b ≠ aZ) _ (HX6.out.trans HXg91q_1.out) (fun b hb => by have := HZB.out.ge; have := HX6.out.size; omega)).mono ?_ | refine (HPTA.out All _ (HX6.out.trans HXg91q_1.out) (fun _ _ => trivial)).mono ?_
         rintro e w7 ⟨A7, c7, rfl, hs7, hEg91q2⟩
         rw [HPL.out] at hs7
         rw [HPL.out]
         first | have HS7 := hid (hs7.mono (S' := fun b => b ≠ aZ) fun b hb _ => hb.elim id fun h => by have := HZB.out.bx.lt; omega) | have HS7 := hid hs7.all
         clear hs7
         have HXg91q_2 := hid (HXg91q_1.out.trans hEg91q2)
         have HZB := hid (HZB.out.ext hEg91q2)
         clear hEg91q2
         refine rgK hK (ext10c HC10.out HXg91q_2.out) (fun hSg91q2 => ?_)
         clear hK K
         refine wpAnyH_ready (rs := [3]) (by kernel_rfl) (by simp) ?_
         refine (AllReadyH.consL rfl (fun K hK => ?g91qb3x45) AllReadyH.nil)
         case' g91qb3x45 =>
          go_simp
          go_at_call 59
          first | refine (HPTB.out (fun b => b ≠ aZ) _ (HX6.out.trans HXg91q_2.out) (fun b hb => by have := HZB.out.ge; have := HX6.out.size; omega)).mono ?_ | refine (HPTB.out All _ (HX6.out.trans HXg91q_2.out) (fun _ _ => trivial)).mono ?_
          rintro e w8 ⟨A8, c8, rfl, hs8, hEg91q3⟩
          rw [HQL.out] at hs8
          rw [HQL.out]
          first | have HS8 := hid (hs8.mono (S' := fun b => b ≠ aZ) fun b hb _ => hb.elim id fun h => by have := HZB.out.bx.lt; omega) | have HS8 := hid hs8.all
          clear hs8
          have HXg91q_3 := hid (HXg91q_2.out.trans hEg91q3)
          have HZB := hid (HZB.out.ext hEg91q3)
          have HS7 := hid (HS7.out.ext hEg91q3)
          clear hEg91q3
          refine rgK hK (ext10c HC10.out HXg91q_3.out) (fun hSg91q3 => ?_)
          clear hK K
          refine wpAnyH_ready (rs := [4]) (by kernel_rfl) (by simp) ?_
          refine (AllReadyH.consL rfl (fun K hK => ?g91qb4x46) AllReadyH.nil)
          case' g91qb4x46 =>
           go_simp
           first | have hst := sl_two HS7.out HS8.out (T := fun b => b ≠ aZ) (by have := HZB.out.bx.lt; omega) | have hst := sl_two HS7.out HS8.out (T := All) trivial
           obtain ⟨wL, aL, hA1, hsz, hEg91q4, -⟩ := extAlloc HXg91q_3.out (.cells #[.slice A7 pl c7, .slice A8 ql c8] 23)
           rw [hA1, hsz] at hst
           have HST' := hid hst
           refine Eq.mpr (congrArg (K _) hA1) ?_
           first | rw [hsz] | skip
           have HST := HST'
           clear hA1 hsz hst
           have HXg91q_4 := hid (HXg91q_3.out.trans hEg91q4)
           have HZB := hid (HZB.out.ext hEg91q4)
           have HS7 := hid (HS7.out.ext hEg91q4)
           have HS8 := hid (HS8.out.ext hEg91q4)
           clear hEg91q4
           refine rgK hK (ext10c HC10.out HXg91q_4.out) (fun hSg91q4 => ?_)
           clear hK K
           refine wpAnyH_ready (rs := [5]) (by kernel_rfl) (by simp) ?_
           refine (AllReadyH.consL rfl (fun K hK => ?g91qb5x47) AllReadyH.nil)
           case' g91qb5x47 =>
            go_simp
            go_at_call 58
            refine (HCC.out _ _ _ HST.out).mono ?_
            rintro e w9 ⟨hEg91q5, A9, c9, rfl, ho9⟩
            first | have hs9 := ho9.slT (S := fun b => b ≠ aZ) (fun b hb => hb) (fun b hb => by have h1 := (ho9.block b hb).1; have := HZB.out.bx.lt; omega) | have hs9 := ho9.sl
            rw [List.length_append, HPL.out, HQL.out] at hs9
            have HS9 := hid hs9
            clear ho9 hs9
            rw [List.length_append, HPL.out, HQL.out]
            have HXg91q_5 := hid (HXg91q_4.out.trans hEg91q5)
            have HZB := hid (HZB.out.ext hEg91q5)
            have HS7 := hid (HS7.out.ext hEg91q5)
            have HS8 := hid (HS8.out.ext hEg91q5)
            have HST := hid (HST.out.ext hEg91q5)
            clear hEg91q5
            refine rgK hK (ext10c HC10.out HXg91q_5.out) (fun hSg91q5 => ?_)
            clear hK K
            refine wpAnyH_ready (rs := [6]) (by kernel_rfl) (by simp) ?_
            refine (AllReadyH.consL rfl (fun K hK => ?g91qb6x48) AllReadyH.nil)
            case' g91qb6x48 =>
             go_simp
             go_at_call 40
             refine (HARC.out _ _ A9 c9 HS9.out).mono ?_
             rintro e w10 ⟨_, rfl, ⟨A5, n5, c5, B5, m5, e5, rfl, hv5⟩, hEg91q6⟩
             first | have HV10 := hid (TyV.mono (S' := fun b => b ≠ aZ) (fun b hb _ => hb.elim id fun h => by have := HZB.out.bx.lt; omega) ⟨A5, n5, c5, B5, m5, e5, rfl, hv5⟩) | have HV10 := hid (TyV.all ⟨A5, n5, c5, B5, m5, e5, rfl, hv5⟩)
             clear hv5
             have HXg91q_6 := hid (HXg91q_5.out.trans hEg91q6)
             have HZB := hid (HZB.out.ext hEg91q6)
             have HS7 := hid (HS7.out.ext hEg91q6)
             have HS8 := hid (HS8.out.ext hEg91q6)
             have HST := hid (HST.out.ext hEg91q6)
             have HS9 := hid (HS9.out.ext hEg91q6)
             clear hEg91q6
             refine rgK hK (ext10c HC10.out HXg91q_6.out) (fun hSg91q6 => ?_)
             clear hK K
             refine rgT3 7 8 9 ?_
             refine wpAnyH_ready (rs := [11]) (by kernel_rfl) (by simp) ?_
             refine (AllReadyH.consL rfl (fun K hK => ?g91qb11x52) AllReadyH.nil)
             case' g91qb11x52 =>
              have HXend := HXg91q_6
              have y0 := HZB.out.bx.1
              have y1 := HZB.out.bx.2.1
              have y2 := HZB.out.bx.2.2.1
              have y3 := HZB.out.bx.2.2.2.1
              have y4 := HZB.out.bx.2.2.2.2.1
              have yf0 := HZB.out.bx.2.2.2.2.2 0
              have yf1 := HZB.out.bx.2.2.2.2.2 1
              have yf2 := HZB.out.bx.2.2.2.2.2 2
              have yf3 := HZB.out.bx.2.2.2.2.2 3
              have yf4 := HZB.out.bx.2.2.2.2.2 4
              go_simp
              refine rgK hK (ext10c HC10.out (((((HXg91q_6.out.setCell HZB.out.ge _).setCell HZB.out.ge _).setCell HZB.out.ge _).setCell HZB.out.ge _).setCell HZB.out.ge _)) (fun hSg91q7 => ?_)
              clear hK K
              refine rgT 12 ?_
              refine wpAnyH_done (by kernel_rfl) ?_ _
              obtain ⟨W7, hW7, hE7, hc7, hv7⟩ := putT HXend.out HZB.out (Nat.le_refl _) HV10.out
              rw [hW7]
              go_wp2
              go_meet
              exact ⟨_, _, _, _, _, _, _, rfl, rfl, hid hE7, hid hc7, hid hv7⟩
  ·have n1 : ((zb : Int) != 0) = true := by simp; omega
   have HRV : Hid (R = (Ty.unk, zb)) := hid (by rw [← HRR.out, if_neg (by rw [HZA.out]; simp), if_pos (by rw [HZB.out]; exact hb), HZB.out])
   clear hb
   have r0 := HB2.out.1
   have r1 := HB2.out.2.1
   have r2 := HB2.out.2.2.1
   have r3 := HB2.out.2.2.2.1
   have r4 := HB2.out.2.2.2.2.1
   have f0 := HB2.out.2.2.2.2.2 0
   have f1 := HB2.out.2.2.2.2.2 1
   have f2 := HB2.out.2.2.2.2.2 2
   have f3 := HB2.out.2.2.2.2.2 3
   have f4 := HB2.out.2.2.2.2.2 4
   have hc := set5_cells r0 r1 r2 r3 r4 (.int .i64 0) (.int .i64 0) (.int .i64 0) (.slice none 0 0) (.slice none 0 0)
   have hx := set5_ext HX2.out (b := w.heap.size + 1 + 1) (by omega) (.int .i64 0) (.int .i64 0) (.int .i64 0) (.slice none 0 0) (.slice none 0 0)
   obtain ⟨W6, hW6⟩ : ∃ W6, ((((w2.setCell ⟨w.heap.size + 1 + 1, 0, none⟩ (.int .i64 0)).setCell ⟨w.heap.size + 1 + 1, 1, none⟩ (.int .i64 0)).setCell ⟨w.heap.size + 1 + 1, 2, none⟩ (.int .i64 0)).setCell ⟨w.heap.size + 1 + 1, 3, none⟩ (.slice none 0 0)).setCell ⟨w.heap.size + 1 + 1, 4, none⟩ (.slice none 0 0) = W6 := ⟨_, rfl⟩
   rw [hW6] at hc hx
   obtain ⟨t0, t1, t2, t3, t4⟩ := hc
   have HX6 := hid hx
   have HW6 := hid hW6
   clear hx hW6
   go_wp2
   rw [HW6.out]
   clear r0 r1 r2 r3 r4
   refine bodyPost_ret (v := .tuple #[.agg #[.int .i64 0, .int .i64 0, .int .i64 0, .slice none 0 0, .slice none 0 0], .int .i64 zb]) (by simp [results, Tryz.results27, go_sem, t0, t1, t2, t3, t4]) rfl ?_
   refine ⟨_, by first | (rw [HRV.out]; done) | (rw [HRV.out]; rfl), ?_, HX6.out⟩
   rw [HRV.out]
   exact tyV_leaf _ _ _ 0 0 (by unfold i64b; omega) (by unfold i64b; omega)
 ·have n1 : ((za : Int) != 0) = true := by simp; omega
  have HRV : Hid (R = (Ty.unk, za)) := hid (by rw [← HRR.out, if_pos (by rw [HZA.out]; exact ha), HZA.out])
  clear ha
  have r0 := HB1.out.1
  have r1 := HB1.out.2.1
  have r2 := HB1.out.2.2.1
  have r3 := HB1.out.2.2.2.1
  have r4 := HB1.out.2.2.2.2.1
  have f0 := HB1.out.2.2.2.2.2 0
  have f1 := HB1.out.2.2.2.2.2 1
  have f2 := HB1.out.2.2.2.2.2 2
  have f3 := HB1.out.2.2.2.2.2 3
  have f4 := HB1.out.2.2.2.2.2 4
  have hc := set5_cells r0 r1 r2 r3 r4 (.int .i64 0) (.int .i64 0) (.int .i64 0) (.slice none 0 0) (.slice none 0 0)
  have hx := set5_ext HX1.out (b := w.heap.size + 1 + 1) (by omega) (.int .i64 0) (.int .i64 0) (.int .i64 0) (.slice none 0 0) (.slice none 0 0)
  obtain ⟨W6, hW6⟩ : ∃ W6, ((((w1.setCell ⟨w.heap.size + 1 + 1, 0, none⟩ (.int .i64 0)).setCell ⟨w.heap.size + 1 + 1, 1, none⟩ (.int .i64 0)).setCell ⟨w.heap.size + 1 + 1, 2, none⟩ (.int .i64 0)).setCell ⟨w.heap.size + 1 + 1, 3, none⟩ (.slice none 0 0)).setCell ⟨w.heap.size + 1 + 1, 4, none⟩ (.slice none 0 0) = W6 := ⟨_, rfl⟩
  rw [hW6] at hc hx
  obtain ⟨t0, t1, t2, t3, t4⟩ := hc
  have HX6 := hid hx
  have HW6 := hid hW6
  clear hx hW6
  go_wp2
  rw [HW6.out]
  clear r0 r1 r2 r3 r4
  refine bodyPost_ret (v := .tuple #[.agg #[.int .i64 0, .int .i64 0, .int .i64 0, .slice none 0 0, .slice none 0 0], .int .i64 za]) (by simp [results, Tryz.results27, go_sem, t0, t1, t2, t3, t4]) rfl ?_
  refine ⟨_, by first | (rw [HRV.out]; done) | (rw [HRV.out]; rfl), ?_, HX6.out⟩
  rw [HRV.out]
  exact tyV_leaf _ _ _ 0 0 (by unfold i64b; omega) (by unfold i64b; omega)
end Go.Proofs.YtacmjhcfjhpkeaaGreatDoor
