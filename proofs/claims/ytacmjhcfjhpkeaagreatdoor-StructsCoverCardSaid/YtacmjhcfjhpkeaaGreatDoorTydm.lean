/- types: within, Check, good, SizeOf, Int, Uint. types: Same. types: own, with the clones that it calls; Int, Uint, Array. -/
import Derived.Test.YtacmjhcfjhpkeaaGreatDoorTyCm
import Derived.Lib.SliceRun
import Derived.OwnWalk
namespace Go.Proofs.YtacmjhcfjhpkeaaGreatDoor
open Go.RowKit Go.Deco
set_option linter.unusedSimpArgs false
set_option linter.unusedVariables false

set_option maxRecDepth 100000 in
set_option maxHeartbeats 4000000 in
theorem within_any : ∀ (d : Nat) (w : World) (t : Ty) (v : Value), TyV d w All v t → formT t = true → Calls Tryz.prog 51 #[v] w (TBool w (wiT t)) := by
 intro d
 induction d using Nat.strongRecOn with
 | _ d ih =>
  intro w t v hv hform
  have HSV := hid (fun W (hW : Ext w W) => size_any d W t v (hv.ext hW) hform)
  obtain ⟨A, na, ca, B, nb, cb, rfl, hE, hF, hk, hs, hc⟩ := hv
  have hla := hE.len
  have hlb := hF.len
  obtain ⟨hac, ham⟩ := hE.cap
  obtain ⟨hbc, hbm⟩ := hF.cap
  have hel : t.elem = [] ∨ ∃ x, t.elem = [x] ∧ formT x = true := by
   rcases formT_cases hform with (rfl | rfl) | ⟨s, hs, (rfl | rfl)⟩ | ⟨x, rfl, hx⟩ | ⟨x, m, rfl, hm1, hm2, hx⟩ | ⟨l, rfl, hl⟩
   ·exact .inl rfl
   ·exact .inl rfl
   ·exact .inl rfl
   ·exact .inl rfl
   ·exact .inr ⟨x, rfl, hx⟩
   ·exact .inr ⟨x, rfl, hx⟩
   ·exact .inl rfl
  have hfl : ∀ f ∈ t.fields, formT f.2 = true := by
   rcases formT_cases hform with (rfl | rfl) | ⟨s, hs, (rfl | rfl)⟩ | ⟨x, rfl, hx⟩ | ⟨x, m, rfl, hm1, hm2, hx⟩ | ⟨l, rfl, hl⟩
   ·intro f hf; cases hf
   ·intro f hf; cases hf
   ·intro f hf; cases hf
   ·intro f hf; cases hf
   ·intro f hf; cases hf
   ·intro f hf; cases hf
   ·exact fun f hf => (formF_all hl f hf).2.2
  obtain ⟨z, hz⟩ : ∃ z, wiT t = z := ⟨_, rfl⟩
  rw [hz]
  obtain ⟨sz, hsz⟩ : ∃ s, szT t = s := ⟨_, rfl⟩
  obtain ⟨tk, ts, tc, te, tf⟩ := t
  rw [wiT, wiE_all, wiF_all, hsz] at hz
  rw [hsz] at HSV
  simp only [Ty.kind, Ty.size, Ty.count, Ty.elem, Ty.fields] at hz hE hF hla hlb hel hfl HSV ⊢
  obtain ⟨W0, hW0⟩ : ∃ W0, w.alloc (.cells #[.int .i64 tk, .int .i64 ts, .int .i64 tc, .slice A na ca, .slice B nb cb] 25) = W0 := ⟨_, rfl⟩
  have hE0 : Ext w W0 := by rw [← hW0]; exact (Ext.refl w).alloc _
  have o0 : W0.cell? ⟨w.heap.size, 0, none⟩ = some (.int .i64 tk) := by rw [← hW0]; simp [go_sem]
  have o1 : W0.cell? ⟨w.heap.size, 1, none⟩ = some (.int .i64 ts) := by rw [← hW0]; simp [go_sem]
  have o2 : W0.cell? ⟨w.heap.size, 2, none⟩ = some (.int .i64 tc) := by rw [← hW0]; simp [go_sem]
  have o3 : W0.cell? ⟨w.heap.size, 3, none⟩ = some (.slice A na ca) := by rw [← hW0]; simp [go_sem]
  have o4 : W0.cell? ⟨w.heap.size, 4, none⟩ = some (.slice B nb cb) := by rw [← hW0]; simp [go_sem]
  have HZ := hid hz
  have HE := hid hE
  have HF := hid hF
  have HLA := hid hla
  have HLB := hid hlb
  have HE0 := hid hE0
  have HIH := hid ih
  have HEL := hid hel
  have HFL := hid hfl
  clear hz hE hF hla hlb hE0 ih hk hs hc hel hfl hsz hform
  by_cases h0 : nb ≤ 64
  case neg =>
   have d0 : decide ((nb : Int) > 64) = true := decide_eq_true (by omega)
   have hgt : (nb : Int) > 64 := by omega
   obtain rfl : z = false := by rw [← HZ.out, decide_eq_false (show ¬ tf.length ≤ 64 by have := HLB.out; omega)]; rfl
   go_enter Tryz.func51, Tryz.ntmps51
   go_wp2
   go_ret
   exact ⟨rfl, HE0.out⟩
  have d0 : decide ((nb : Int) > 64) = false := decide_eq_false (by omega)
  have hle : ¬ (nb : Int) > 64 := by omega
  go_enter Tryz.func51, Tryz.ntmps51
  go_wp2_with fail
  refine (HSV.out _ HE0.out).mono ?_
  rintro e w1 ⟨rfl, hx1⟩
  have HX1 := hid hx1
  clear o0 o1 o2 hle
  by_cases h1 : sz ≤ 65536
  case neg =>
   have d1 : decide (sz > 65536) = true := decide_eq_true (by omega)
   have hgt : sz > 65536 := by omega
   obtain rfl : z = false := by rw [← HZ.out, decide_eq_false h1]; simp
   go_wp2
   go_ret
   exact ⟨rfl, HE0.out.trans HX1.out⟩
  have d1 : decide (sz > 65536) = false := decide_eq_false (by omega)
  have hle : ¬ sz > 65536 := by omega
  have HZ2 : Hid (((tf.all fun f => wiT f.2) && te.all wiT) = z) := hid (by rw [← HZ.out, decide_eq_true h1, decide_eq_true (show tf.length ≤ 64 by have := HLB.out; omega)]; simp)
  have o3 := hx1.cell o3
  have o4 := hx1.cell o4
  clear hx1 HZ
  go_wp2
  go_loopw [17] (fun i wr => ∃ k : Nat, k ≤ nb ∧ i = .int .i64 k ∧ Hid (Ext w1 wr) ∧ Hid ((tf.take k).all (fun f => wiT f.2) = true)) (fun i _ => nb - (intOf i).toNat)
  case atStart => exact ⟨0, by omega, rfl, hid (Ext.refl _), hid rfl⟩
  case round =>
   obtain ⟨k, hk, rfl, HX, HA⟩ := hrel
   by_cases h2 : k < nb
   ·obtain ⟨x, hx⟩ : ∃ x, tf[k]? = some x := ⟨_, List.getElem?_eq_getElem (by have := HLB.out; omega)⟩
    obtain ⟨d', b, off, A1, n1, c1, B1, m1, e1, hd, rfl, hv1, -, c0, c1', c2, c3, c4, c5⟩ := (HF.out.ext (HE0.out.trans (HX1.out.trans HX.out))).fd_at hx
    have HC := hid (fun w' (hw : Ext wr w') => HIH.out d' (by omega) w' x.2 _ (hv1.ext hw) (HFL.out x (List.mem_of_getElem? hx)))
    have HXX := hid hx
    clear hd hv1 hx
    obtain ⟨r, hr⟩ : ∃ r, wiT x.2 = r := ⟨_, rfl⟩
    rw [hr] at HC
    have HR := hid hr
    clear hr
    go_wp2_with fail
    refine (HC.out _ ((Ext.refl _).alloc _)).mono ?_
    rintro e w5 ⟨rfl, hx5⟩
    have HX5 := hid ((HX.out.alloc _).trans hx5)
    clear hx5
    cases r with
    | true =>
     go_wp2
     go_roundw
     case rel => exact ⟨k + 1, by omega, by go_num, HX5, hid (allT_step HXX.out HR.out HA.out)⟩
     case measure => simp [intOf]; omega
    | false =>
     go_wp2
     go_ret
     refine ⟨ret_bool ?_, HE0.out.trans (HX1.out.trans HX5.out)⟩
     rw [← HZ2.out, allT_hit (p := fun f : Int × Ty => wiT f.2) HXX.out HR.out, Bool.false_and]
   ·obtain rfl : k = nb := by omega
    have hfull : (tf.all fun f => wiT f.2) = true := by have h := HA.out; rwa [List.take_of_length_le (by have := HLB.out; omega)] at h
    have HZ3 : Hid (te.all wiT = z) := hid (by rw [← HZ2.out, hfull]; rfl)
    have o3 := HX.out.cell o3
    clear hfull HZ2
    rcases HEL.out with he | ⟨x, he, hxf⟩
    ·have hna : na = 0 := by have := HLA.out; rw [he] at this; exact this
     subst hna
     obtain rfl : z = true := by rw [← HZ3.out, he]; rfl
     clear he
     go_wp2
     go_ret
     exact ⟨rfl, HE0.out.trans (HX1.out.trans HX.out)⟩
    ·have hna : na = 1 := by have := HLA.out; rw [he] at this; exact this
     subst hna
     obtain ⟨d', b, off, A1, m1, c1, B1, m2, e1, hd, rfl, hv1, c0, c1', c2, c3, c4⟩ := (HE.out.ext (HE0.out.trans (HX1.out.trans HX.out))).ty_at (k := 0) (t := x) (by rw [he]; rfl)
     simp only [Nat.zero_mul, Nat.add_zero] at c0 c1' c2 c3 c4
     have HC := hid (fun w' (hw : Ext wr w') => HIH.out d' (by omega) w' x _ (hv1.ext hw) hxf)
     have hr : wiT x = z := by rw [← HZ3.out, he]; simp
     rw [hr] at HC
     clear hd hv1 he hr HZ3 hxf
     go_wp2_with fail
     refine (HC.out _ (Ext.refl _)).mono ?_
     rintro e w5 ⟨rfl, hx5⟩
     have HX5 := hid hx5
     clear hx5
     go_wp2
     go_ret
     exact ⟨rfl, HE0.out.trans (HX1.out.trans (HX.out.trans HX5.out))⟩

def TErr (w : World) (n : Nat) (e : Ending) (w' : World) : Prop := e = .returned (.int .i64 n) ∧ Ext w w'
set_option maxRecDepth 100000 in
set_option maxHeartbeats 4000000 in
theorem tcheck_any (d : Nat) (w : World) (t : Ty) (v : Value) (hv : TyV d w All v t) : Calls Tryz.prog 22 #[v] w (TErr w (chkT t)) := by
 have HV := hid hv
 obtain ⟨A, na, ca, B, nb, cb, rfl, -⟩ := hv
 obtain ⟨z, hz⟩ : ∃ z, chkT t = z := ⟨_, rfl⟩
 rw [hz]
 have HZ := hid hz
 clear hz
 obtain ⟨W0, hW0⟩ : ∃ W0, w.alloc (.cells #[.int .i64 t.kind, .int .i64 t.size, .int .i64 t.count, .slice A na ca, .slice B nb cb] 25) = W0 := ⟨_, rfl⟩
 have hE0 : Ext w W0 := by rw [← hW0]; exact (Ext.refl w).alloc _
 have o0 : W0.cell? ⟨w.heap.size, 0, none⟩ = some (.int .i64 t.kind) := by rw [← hW0]; simp [go_sem]
 have o1 : W0.cell? ⟨w.heap.size, 1, none⟩ = some (.int .i64 t.size) := by rw [← hW0]; simp [go_sem]
 have o2 : W0.cell? ⟨w.heap.size, 2, none⟩ = some (.int .i64 t.count) := by rw [← hW0]; simp [go_sem]
 have o3 : W0.cell? ⟨w.heap.size, 3, none⟩ = some (.slice A na ca) := by rw [← hW0]; simp [go_sem]
 have o4 : W0.cell? ⟨w.heap.size, 4, none⟩ = some (.slice B nb cb) := by rw [← hW0]; simp [go_sem]
 have HE0 := hid hE0
 clear hE0
 obtain ⟨r1, hr1⟩ : ∃ r, shalT t 64 = r := ⟨_, rfl⟩
 have HR1 := hid hr1
 have HC1 := hid (shallow_any d _ t _ 64 (HV.out.ext HE0.out) (by omega))
 rw [show ((64 : Nat) : Int) = 64 from rfl, hr1] at HC1
 clear hr1
 go_enter Tryz.func22, Tryz.ntmps22
 go_wp2_with fail
 refine (HC1.out).mono ?_
 rintro e w1 ⟨rfl, hx1⟩
 have HX1 := hid (hx1)
 have o0 := HX1.out.cell o0
 have o1 := HX1.out.cell o1
 have o2 := HX1.out.cell o2
 have o3 := HX1.out.cell o3
 have o4 := HX1.out.cell o4
 clear hx1 hW0
 cases r1 with
 | false =>
  obtain rfl : z = 20 := by rw [← HZ.out]; unfold chkT; rw [if_pos HR1.out]
  go_wp2
  go_ret
  exact ⟨rfl, HE0.out.trans HX1.out⟩
 | true =>
  obtain ⟨r2, hr2⟩ : ∃ r, formT t = r := ⟨_, rfl⟩
  have HR2 := hid hr2
  have HC2 := hid (formed_any d w1 t _ (HV.out.ext (HE0.out.trans HX1.out)))
  rw [hr2] at HC2
  clear hr2
  go_wp2_with fail
  refine (HC2.out).mono ?_
  rintro e w2 ⟨rfl, hx2⟩
  have HX2 := hid (hx2)
  have o0 := HX2.out.cell o0
  have o1 := HX2.out.cell o1
  have o2 := HX2.out.cell o2
  have o3 := HX2.out.cell o3
  have o4 := HX2.out.cell o4
  clear hx2
  cases r2 with
  | false =>
   obtain rfl : z = 2 := by rw [← HZ.out]; unfold chkT; rw [if_neg (by rw [HR1.out]; simp), if_pos HR2.out]
   go_wp2
   go_ret
   exact ⟨rfl, HE0.out.trans (HX1.out.trans HX2.out)⟩
  | true =>
   obtain ⟨r3, hr3⟩ : ∃ r, wiT t = r := ⟨_, rfl⟩
   have HR3 := hid hr3
   have HC3 := hid (within_any d w2 t _ (HV.out.ext (HE0.out.trans (HX1.out.trans HX2.out))) HR2.out)
   rw [hr3] at HC3
   clear hr3
   go_wp2_with fail
   refine (HC3.out).mono ?_
   rintro e w3 ⟨rfl, hx3⟩
   have HX3 := hid (hx3)
   clear hx3
   cases r3 with
   | false =>
    obtain rfl : z = 6 := by rw [← HZ.out]; unfold chkT; rw [if_neg (by rw [HR1.out]; simp), if_neg (by rw [HR2.out]; simp), if_pos HR3.out]
    go_wp2
    go_ret
    exact ⟨rfl, HE0.out.trans (HX1.out.trans (HX2.out.trans HX3.out))⟩
   | true =>
    obtain rfl : z = 0 := by rw [← HZ.out]; unfold chkT; rw [if_neg (by rw [HR1.out]; simp), if_neg (by rw [HR2.out]; simp), if_neg (by rw [HR3.out]; simp)]
    go_wp2
    go_ret
    exact ⟨rfl, HE0.out.trans (HX1.out.trans (HX2.out.trans HX3.out))⟩

set_option maxRecDepth 100000 in
set_option maxHeartbeats 1000000 in
theorem good_any (d : Nat) (w : World) (t : Ty) (v : Value) (hv : TyV d w All v t) : Calls Tryz.prog 44 #[v] w (TBool w (goodT t)) := by
 have HV := hid hv
 obtain ⟨A, na, ca, B, nb, cb, rfl, -⟩ := hv
 obtain ⟨W0, hW0⟩ : ∃ W0, w.alloc (.cells #[.int .i64 t.kind, .int .i64 t.size, .int .i64 t.count, .slice A na ca, .slice B nb cb] 25) = W0 := ⟨_, rfl⟩
 have hE0 : Ext w W0 := by rw [← hW0]; exact (Ext.refl w).alloc _
 have o0 : W0.cell? ⟨w.heap.size, 0, none⟩ = some (.int .i64 t.kind) := by rw [← hW0]; simp [go_sem]
 have o1 : W0.cell? ⟨w.heap.size, 1, none⟩ = some (.int .i64 t.size) := by rw [← hW0]; simp [go_sem]
 have o2 : W0.cell? ⟨w.heap.size, 2, none⟩ = some (.int .i64 t.count) := by rw [← hW0]; simp [go_sem]
 have o3 : W0.cell? ⟨w.heap.size, 3, none⟩ = some (.slice A na ca) := by rw [← hW0]; simp [go_sem]
 have o4 : W0.cell? ⟨w.heap.size, 4, none⟩ = some (.slice B nb cb) := by rw [← hW0]; simp [go_sem]
 have HE0 := hid hE0
 clear hE0
 have HC1 := hid (tcheck_any d _ t _ (HV.out.ext HE0.out))
 unfold goodT
 obtain ⟨z, hz⟩ : ∃ z, chkT t = z := ⟨_, rfl⟩
 rw [hz] at HC1 ⊢
 clear hz
 go_enter Tryz.func44, Tryz.ntmps44
 go_wp2_with fail
 refine (HC1.out).mono ?_
 rintro e w1 ⟨rfl, hx1⟩
 have HX1 := hid (HE0.out.trans hx1)
 clear hx1 hW0
 by_cases h : z = 0
 ·subst h
  go_wp2
  go_ret
  exact ⟨rfl, HX1.out⟩
 ·have n1 : ((z : Int) == 0) = false := by simp; omega
  have N2 := hid (show decide (z = 0) = false from decide_eq_false h)
  go_wp2
  go_ret
  exact ⟨ret_bool N2.out.symm, HX1.out⟩
set_option maxRecDepth 100000 in
set_option maxHeartbeats 1000000 in
theorem sizeof_any (d : Nat) (w : World) (t : Ty) (v : Value) (hv : TyV d w All v t) : Calls Tryz.prog 23 #[v] w (TInt w (sizeT t)) := by
 have HV := hid hv
 obtain ⟨A, na, ca, B, nb, cb, rfl, -⟩ := hv
 obtain ⟨W0, hW0⟩ : ∃ W0, w.alloc (.cells #[.int .i64 t.kind, .int .i64 t.size, .int .i64 t.count, .slice A na ca, .slice B nb cb] 25) = W0 := ⟨_, rfl⟩
 have hE0 : Ext w W0 := by rw [← hW0]; exact (Ext.refl w).alloc _
 have o0 : W0.cell? ⟨w.heap.size, 0, none⟩ = some (.int .i64 t.kind) := by rw [← hW0]; simp [go_sem]
 have o1 : W0.cell? ⟨w.heap.size, 1, none⟩ = some (.int .i64 t.size) := by rw [← hW0]; simp [go_sem]
 have o2 : W0.cell? ⟨w.heap.size, 2, none⟩ = some (.int .i64 t.count) := by rw [← hW0]; simp [go_sem]
 have o3 : W0.cell? ⟨w.heap.size, 3, none⟩ = some (.slice A na ca) := by rw [← hW0]; simp [go_sem]
 have o4 : W0.cell? ⟨w.heap.size, 4, none⟩ = some (.slice B nb cb) := by rw [← hW0]; simp [go_sem]
 have HE0 := hid hE0
 clear hE0
 have HC1 := hid (good_any d _ t _ (HV.out.ext HE0.out))
 obtain ⟨z, hz⟩ : ∃ z, goodT t = z := ⟨_, rfl⟩
 have HZ := hid hz
 rw [hz] at HC1
 clear hz
 go_enter Tryz.func23, Tryz.ntmps23
 go_wp2_with fail
 refine (HC1.out).mono ?_
 rintro e w1 ⟨rfl, hx1⟩
 have HX1 := hid hx1
 have o0 := HX1.out.cell o0
 have o1 := HX1.out.cell o1
 have o2 := HX1.out.cell o2
 have o3 := HX1.out.cell o3
 have o4 := HX1.out.cell o4
 clear hx1 hW0
 cases z with
 | false =>
  have HR : Hid (sizeT t = 0) := hid (by unfold sizeT; rw [if_neg (by rw [HZ.out]; simp)])
  go_wp2
  go_ret
  exact ⟨ret_int HR.out.symm, HE0.out.trans HX1.out⟩
 | true =>
  have HR : Hid (sizeT t = szT t) := hid (by unfold sizeT; rw [if_pos HZ.out])
  go_wp2_with fail
  refine (size_any d _ t _ (HV.out.ext (HE0.out.trans HX1.out)) (goodT_iff.1 HZ.out).2.1).mono ?_
  rintro e w2 ⟨rfl, hx2⟩
  have HX2 := hid hx2
  clear hx2
  go_wp2
  go_ret
  exact ⟨ret_int HR.out.symm, HE0.out.trans (HX1.out.trans HX2.out)⟩
end Go.Proofs.YtacmjhcfjhpkeaaGreatDoor

namespace Go.Proofs.YtacmjhcfjhpkeaaGreatDoor
open Go.RowKit Go.Deco
set_option linter.unusedSimpArgs false
set_option linter.unusedVariables false

theorem call_tsame : ∀ args w, (callFunc 86 args).run Tryz.prog w = .ok (.enter 86 args) w := fun args w => callFunc_enter Tryz.func86 (by kernel_rfl) rfl args w
theorem call_tsame1 : ∀ args w, (callFunc 116 args).run Tryz.prog w = .ok (.enter 116 args) w := fun args w => callFunc_enter Tryz.func116 (by kernel_rfl) rfl args w
def SameOk (d : Nat) : Prop := ∀ (w : World) (a b : Ty) (va vb : Value), TyV d w All va a → TyV d w All vb b → Calls Tryz.prog 86 #[va, vb] w (TBool w (sameT a b))
theorem take_eq_end {α : Type} {l m : List α} {n : Nat} (h : l.take n = m.take n) (hl : n = l.length) (hm : n = m.length) : l = m := by
 rwa [List.take_of_length_le (by omega), List.take_of_length_le (by omega)] at h
theorem take_eq_no {α : Type} {l m : List α} {k : Nat} {x y : α} (hx : l[k]? = some x) (hy : m[k]? = some y) (h : x ≠ y) : l ≠ m := by
 rintro rfl
 rw [hx] at hy
 exact h (Option.some.inj hy)
theorem take_eq_step {α : Type} {l m : List α} {k : Nat} {x y : α} (hx : l[k]? = some x) (hy : m[k]? = some y) (h : x = y) (ht : l.take k = m.take k) : l.take (k + 1) = m.take (k + 1) := by
 rw [take_snoc' hx, take_snoc' hy, ht, h]
theorem same_false {a b : Ty} (h : sameT a b = false) : a ≠ b := fun e => by rw [(sameT_iff a b).2 e] at h; cases h
theorem sameE_false {l m : List Ty} (h : l ≠ m) : sameE l m = false := by
 rw [Bool.eq_false_iff]
 exact fun e => h ((sameE_iff l m).1 e)
theorem sameF_false {l m : List (Int × Ty)} (h : l ≠ m) : sameF l m = false := by
 rw [Bool.eq_false_iff]
 exact fun e => h ((sameF_iff l m).1 e)

set_option maxRecDepth 100000 in
set_option maxHeartbeats 4000000 in
theorem eqT_any (d : Nat) (ih : ∀ d', d' < d → SameOk d') (w : World) (A B : Option Addr) (n m c e : Nat) (l r : List Ty) (hl : Sl (tyR d) w All (.slice A n c) l) (hr : Sl (tyR d) w All (.slice B m e) r) :
  Calls Tryz.prog 114 #[.slice A n c, .slice B m e, .func (.func 86) #[] #[]] w (TBool w (sameE l r)) := by
 have hg := call_tsame
 have hln := hl.len
 have hrn := hr.len
 obtain ⟨hnc, hcm⟩ := hl.cap
 obtain ⟨hmc, hdm⟩ := hr.cap
 obtain ⟨z, hz⟩ : ∃ z, sameE l r = z := ⟨_, rfl⟩
 rw [hz]
 have HZ := hid hz
 have HS := hid hl
 have HR := hid hr
 have HLL := hid hln
 have HRL := hid hrn
 have HIH := hid ih
 clear hz hl hr hln hrn ih
 by_cases hnm : n = m
 case neg =>
  have hne : ((n : Int) != (m : Int)) = true := by simp; omega
  obtain rfl : z = false := by rw [← HZ.out]; exact sameE_false fun h => hnm (by rw [HLL.out, HRL.out, h])
  go_enter Tryz.func114, Tryz.ntmps114
  go_wp2
  go_ret
  exact ⟨rfl, Ext.refl w⟩
 subst hnm
 have hne : ((n : Int) != (n : Int)) = false := by simp
 go_enter Tryz.func114, Tryz.ntmps114
 go_wp2
 go_loopw [17] (fun i wr => ∃ k : Nat, k ≤ n ∧ i = .int .i64 k ∧ Hid (Ext w wr) ∧ Hid (l.take k = r.take k)) (fun i _ => n - (intOf i).toNat)
 case atStart => exact ⟨0, by omega, rfl, hid (Ext.refl w), hid rfl⟩
 case round =>
  obtain ⟨k, hk, rfl, HX, HT⟩ := hrel
  by_cases h1 : k < n
  ·obtain ⟨x, hx⟩ : ∃ x, l[k]? = some x := ⟨_, List.getElem?_eq_getElem (by have := HLL.out; omega)⟩
   obtain ⟨y, hy⟩ : ∃ y, r[k]? = some y := ⟨_, List.getElem?_eq_getElem (by have := HRL.out; omega)⟩
   obtain ⟨d', b, off, A1, n1, c1, B1, m1, e1, hd, rfl, hv1, c0, c1', c2, c3, c4⟩ := (HS.out.ext HX.out).ty_at hx
   obtain ⟨d2, b2, off2, A2, n2, cc2, B2, m2, e2, hd2, rfl, hv2, y0, y1, y2, y3, y4⟩ := (HR.out.ext HX.out).ty_at hy
   obtain rfl : d' = d2 := by omega
   have HC := hid (fun w' (hw : Ext wr w') => HIH.out d' (by omega) w' x y _ _ (hv1.ext hw) (hv2.ext hw))
   have HXX := hid hx
   have HYY := hid hy
   obtain ⟨q, hq⟩ : ∃ q, sameT x y = q := ⟨_, rfl⟩
   rw [hq] at HC
   have HQ := hid hq
   clear hd hd2 hv1 hv2 hx hy hq
   obtain ⟨W1, hW1⟩ : ∃ W1, wr.alloc (.cells #[.int .i64 x.kind, .int .i64 x.size, .int .i64 x.count, .slice A1 n1 c1, .slice B1 m1 e1] 25) = W1 := ⟨_, rfl⟩
   have hE1 : Ext wr W1 := by rw [← hW1]; exact (Ext.refl wr).alloc _
   have y0 := hE1.cell y0
   have y1 := hE1.cell y1
   have y2 := hE1.cell y2
   have y3 := hE1.cell y3
   have y4 := hE1.cell y4
   have x0 : W1.cell? ⟨wr.heap.size, 0, none⟩ = some (.int .i64 x.kind) := by rw [← hW1]; simp [go_sem]
   have x1 : W1.cell? ⟨wr.heap.size, 1, none⟩ = some (.int .i64 x.size) := by rw [← hW1]; simp [go_sem]
   have x2 : W1.cell? ⟨wr.heap.size, 2, none⟩ = some (.int .i64 x.count) := by rw [← hW1]; simp [go_sem]
   have x3 : W1.cell? ⟨wr.heap.size, 3, none⟩ = some (.slice A1 n1 c1) := by rw [← hW1]; simp [go_sem]
   have x4 : W1.cell? ⟨wr.heap.size, 4, none⟩ = some (.slice B1 m1 e1) := by rw [← hW1]; simp [go_sem]
   obtain ⟨W2, hW2⟩ : ∃ W2, W1.alloc (.cells #[.int .i64 y.kind, .int .i64 y.size, .int .i64 y.count, .slice A2 n2 cc2, .slice B2 m2 e2] 25) = W2 := ⟨_, rfl⟩
   have hE2 : Ext W1 W2 := by rw [← hW2]; exact (Ext.refl W1).alloc _
   have z0 := hE2.cell x0
   have z1 := hE2.cell x1
   have z2 := hE2.cell x2
   have z3 := hE2.cell x3
   have z4 := hE2.cell x4
   have b0 : W2.cell? ⟨W1.heap.size, 0, none⟩ = some (.int .i64 y.kind) := by rw [← hW2]; simp [go_sem]
   have b1 : W2.cell? ⟨W1.heap.size, 1, none⟩ = some (.int .i64 y.size) := by rw [← hW2]; simp [go_sem]
   have b2' : W2.cell? ⟨W1.heap.size, 2, none⟩ = some (.int .i64 y.count) := by rw [← hW2]; simp [go_sem]
   have b3 : W2.cell? ⟨W1.heap.size, 3, none⟩ = some (.slice A2 n2 cc2) := by rw [← hW2]; simp [go_sem]
   have b4 : W2.cell? ⟨W1.heap.size, 4, none⟩ = some (.slice B2 m2 e2) := by rw [← hW2]; simp [go_sem]
   have HE1 := hid hE1
   have HE2 := hid hE2
   clear hE1 hE2
   go_wp2_with fail
   clear hW1 hW2 c0 c1' c2 c3 c4
   refine (HC.out _ (HE1.out.trans HE2.out)).mono ?_
   rintro e w5 ⟨rfl, hx5⟩
   have HX5 := hid (HX.out.trans ((HE1.out.trans HE2.out).trans hx5))
   clear hx5 x0 x1 x2 x3 x4 y0 y1 y2 y3 y4 z0 z1 z2 z3 z4 b0 b1 b2' b3 b4
   cases q with
   | true =>
    go_wp2
    go_roundw
    case rel => exact ⟨k + 1, by omega, by go_num, HX5, hid (take_eq_step HXX.out HYY.out ((sameT_iff x y).1 HQ.out) HT.out)⟩
    case measure => simp [intOf]; omega
   | false =>
    obtain rfl : z = false := by rw [← HZ.out]; exact sameE_false (take_eq_no HXX.out HYY.out (same_false HQ.out))
    go_wp2
    go_ret
    exact ⟨rfl, HX5.out⟩
  ·obtain rfl : k = n := by omega
   obtain rfl : z = true := by
    rw [← HZ.out]
    exact (sameE_iff l r).2 (take_eq_end HT.out HLL.out HRL.out)
   go_wp2
   go_ret
   exact ⟨rfl, HX.out⟩
theorem same1_iff {x y : Int × Ty} : (decide (x.1 = y.1) && sameT x.2 y.2) = true ↔ x = y := by
 rw [Bool.and_eq_true, decide_eq_true_eq, sameT_iff, Prod.ext_iff]
set_option maxRecDepth 100000 in
set_option maxHeartbeats 4000000 in
theorem same1_any (d : Nat) (ih : SameOk d) (w : World) (x y : Int × Ty) (va vb : Value) (ha : FdV d w All va x) (hb : FdV d w All vb y) :
  Calls Tryz.prog 116 #[va, vb] w (TBool w (decide (x.1 = y.1) && sameT x.2 y.2)) := by
 obtain ⟨A1, n1, c1, B1, m1, e1, rfl, hi1, hv1⟩ := ha
 obtain ⟨A2, n2, c2, B2, m2, e2, rfl, hi2, hv2⟩ := hb
 obtain ⟨z, hz⟩ : ∃ z, (decide (x.1 = y.1) && sameT x.2 y.2) = z := ⟨_, rfl⟩
 rw [hz]
 have HZ := hid hz
 have HC := hid (fun w' (hw : Ext w w') => ih w' x.2 y.2 _ _ (hv1.ext hw) (hv2.ext hw))
 clear hz hi1 hi2 hv1 hv2
 obtain ⟨xo, xt⟩ := x
 obtain ⟨yo, yt⟩ := y
 simp only at HZ HC ⊢
 obtain ⟨W0, hW0⟩ : ∃ W0, (w.alloc (.cells #[.int .i64 xo, .int .i64 xt.kind, .int .i64 xt.size, .int .i64 xt.count, .slice A1 n1 c1, .slice B1 m1 e1] 48)).alloc (.cells #[.int .i64 yo, .int .i64 yt.kind, .int .i64 yt.size, .int .i64 yt.count, .slice A2 n2 c2, .slice B2 m2 e2] 48) = W0 := ⟨_, rfl⟩
 have hE0 : Ext w W0 := by rw [← hW0]; exact ((Ext.refl w).alloc _).alloc _
 have HE0 := hid hE0
 have a0 : W0.cell? ⟨w.heap.size, 0, none⟩ = some (.int .i64 xo) := by rw [← hW0]; simp [go_sem]
 have a1 : W0.cell? ⟨w.heap.size, 1, none⟩ = some (.int .i64 xt.kind) := by rw [← hW0]; simp [go_sem]
 have a2 : W0.cell? ⟨w.heap.size, 2, none⟩ = some (.int .i64 xt.size) := by rw [← hW0]; simp [go_sem]
 have a3 : W0.cell? ⟨w.heap.size, 3, none⟩ = some (.int .i64 xt.count) := by rw [← hW0]; simp [go_sem]
 have a4 : W0.cell? ⟨w.heap.size, 4, none⟩ = some (.slice A1 n1 c1) := by rw [← hW0]; simp [go_sem]
 have a5 : W0.cell? ⟨w.heap.size, 5, none⟩ = some (.slice B1 m1 e1) := by rw [← hW0]; simp [go_sem]
 have b0 : W0.cell? ⟨w.heap.size + 1, 0, none⟩ = some (.int .i64 yo) := by rw [← hW0]; simp [go_sem]
 have b1 : W0.cell? ⟨w.heap.size + 1, 1, none⟩ = some (.int .i64 yt.kind) := by rw [← hW0]; simp [go_sem]
 have b2 : W0.cell? ⟨w.heap.size + 1, 2, none⟩ = some (.int .i64 yt.size) := by rw [← hW0]; simp [go_sem]
 have b3 : W0.cell? ⟨w.heap.size + 1, 3, none⟩ = some (.int .i64 yt.count) := by rw [← hW0]; simp [go_sem]
 have b4 : W0.cell? ⟨w.heap.size + 1, 4, none⟩ = some (.slice A2 n2 c2) := by rw [← hW0]; simp [go_sem]
 have b5 : W0.cell? ⟨w.heap.size + 1, 5, none⟩ = some (.slice B2 m2 e2) := by rw [← hW0]; simp [go_sem]
 clear hE0
 by_cases h : xo = yo
 ·subst h
  obtain ⟨q, hq⟩ : ∃ q, sameT xt yt = q := ⟨_, rfl⟩
  rw [hq] at HC
  obtain rfl : z = q := by rw [← HZ.out, hq]; simp
  clear hq
  go_enter Tryz.func116, Tryz.ntmps116
  go_wp2_with fail
  refine (HC.out _ HE0.out).mono ?_
  rintro e w5 ⟨rfl, hx5⟩
  have HX5 := hid (HE0.out.trans hx5)
  clear hx5 hW0
  go_wp2
  go_ret
  exact ⟨rfl, HX5.out⟩
 ·have n1 : (xo == yo) = false := by simp [h]
  obtain rfl : z = false := by rw [← HZ.out, decide_eq_false h]; rfl
  clear h
  go_enter Tryz.func116, Tryz.ntmps116
  go_wp2
  go_ret
  exact ⟨rfl, HE0.out⟩
set_option maxRecDepth 100000 in
set_option maxHeartbeats 4000000 in
theorem eqF_any (d : Nat) (ih : ∀ d', d' < d → SameOk d') (w : World) (A B : Option Addr) (n m c e : Nat) (l r : List (Int × Ty)) (hl : Sl (fdR (tyR d)) w All (.slice A n c) l) (hr : Sl (fdR (tyR d)) w All (.slice B m e) r) :
  Calls Tryz.prog 115 #[.slice A n c, .slice B m e, .func (.func 116) #[] #[]] w (TBool w (sameF l r)) := by
 have hg := call_tsame1
 have hln := hl.len
 have hrn := hr.len
 obtain ⟨hnc, hcm⟩ := hl.cap
 obtain ⟨hmc, hdm⟩ := hr.cap
 obtain ⟨z, hz⟩ : ∃ z, sameF l r = z := ⟨_, rfl⟩
 rw [hz]
 have HZ := hid hz
 have HS := hid hl
 have HR := hid hr
 have HLL := hid hln
 have HRL := hid hrn
 have HIH := hid ih
 clear hz hl hr hln hrn ih
 by_cases hnm : n = m
 case neg =>
  have hne : ((n : Int) != (m : Int)) = true := by simp; omega
  obtain rfl : z = false := by rw [← HZ.out]; exact sameF_false fun h => hnm (by rw [HLL.out, HRL.out, h])
  go_enter Tryz.func115, Tryz.ntmps115
  go_wp2
  go_ret
  exact ⟨rfl, Ext.refl w⟩
 subst hnm
 have hne : ((n : Int) != (n : Int)) = false := by simp
 go_enter Tryz.func115, Tryz.ntmps115
 go_wp2
 go_loopw [17] (fun i wr => ∃ k : Nat, k ≤ n ∧ i = .int .i64 k ∧ Hid (Ext w wr) ∧ Hid (l.take k = r.take k)) (fun i _ => n - (intOf i).toNat)
 case atStart => exact ⟨0, by omega, rfl, hid (Ext.refl w), hid rfl⟩
 case round =>
  obtain ⟨k, hk, rfl, HX, HT⟩ := hrel
  by_cases h1 : k < n
  ·obtain ⟨x, hx⟩ : ∃ x, l[k]? = some x := ⟨_, List.getElem?_eq_getElem (by have := HLL.out; omega)⟩
   obtain ⟨y, hy⟩ : ∃ y, r[k]? = some y := ⟨_, List.getElem?_eq_getElem (by have := HRL.out; omega)⟩
   obtain ⟨d', b, off, A1, n1, c1, B1, m1, e1, hd, rfl, hv1, hi1, c0, c1', c2, c3, c4, c5⟩ := (HS.out.ext HX.out).fd_at hx
   obtain ⟨d2, b2, off2, A2, n2, cc2, B2, m2, e2, hd2, rfl, hv2, hi2, y0, y1, y2, y3, y4, y5⟩ := (HR.out.ext HX.out).fd_at hy
   obtain rfl : d' = d2 := by omega
   have HC := hid (fun w' (hw : Ext wr w') => same1_any d' (HIH.out d' (by omega)) w' x y _ _ ⟨A1, n1, c1, B1, m1, e1, rfl, hi1, hv1.ext hw⟩ ⟨A2, n2, cc2, B2, m2, e2, rfl, hi2, hv2.ext hw⟩)
   have HXX := hid hx
   have HYY := hid hy
   obtain ⟨q, hq⟩ : ∃ q, (decide (x.1 = y.1) && sameT x.2 y.2) = q := ⟨_, rfl⟩
   rw [hq] at HC
   have HQ := hid hq
   clear hd hd2 hv1 hv2 hx hy hq hi1 hi2
   obtain ⟨W1, hW1⟩ : ∃ W1, wr.alloc (.cells #[.int .i64 x.1, .int .i64 x.2.kind, .int .i64 x.2.size, .int .i64 x.2.count, .slice A1 n1 c1, .slice B1 m1 e1] 48) = W1 := ⟨_, rfl⟩
   have hE1 : Ext wr W1 := by rw [← hW1]; exact (Ext.refl wr).alloc _
   have y0 := hE1.cell y0
   have y1 := hE1.cell y1
   have y2 := hE1.cell y2
   have y3 := hE1.cell y3
   have y4 := hE1.cell y4
   have y5 := hE1.cell y5
   have x0 : W1.cell? ⟨wr.heap.size, 0, none⟩ = some (.int .i64 x.1) := by rw [← hW1]; simp [go_sem]
   have x1 : W1.cell? ⟨wr.heap.size, 1, none⟩ = some (.int .i64 x.2.kind) := by rw [← hW1]; simp [go_sem]
   have x2 : W1.cell? ⟨wr.heap.size, 2, none⟩ = some (.int .i64 x.2.size) := by rw [← hW1]; simp [go_sem]
   have x3 : W1.cell? ⟨wr.heap.size, 3, none⟩ = some (.int .i64 x.2.count) := by rw [← hW1]; simp [go_sem]
   have x4 : W1.cell? ⟨wr.heap.size, 4, none⟩ = some (.slice A1 n1 c1) := by rw [← hW1]; simp [go_sem]
   have x5 : W1.cell? ⟨wr.heap.size, 5, none⟩ = some (.slice B1 m1 e1) := by rw [← hW1]; simp [go_sem]
   obtain ⟨W2, hW2⟩ : ∃ W2, W1.alloc (.cells #[.int .i64 y.1, .int .i64 y.2.kind, .int .i64 y.2.size, .int .i64 y.2.count, .slice A2 n2 cc2, .slice B2 m2 e2] 48) = W2 := ⟨_, rfl⟩
   have hE2 : Ext W1 W2 := by rw [← hW2]; exact (Ext.refl W1).alloc _
   have z0 := hE2.cell x0
   have z1 := hE2.cell x1
   have z2 := hE2.cell x2
   have z3 := hE2.cell x3
   have z4 := hE2.cell x4
   have z5 := hE2.cell x5
   have b0 : W2.cell? ⟨W1.heap.size, 0, none⟩ = some (.int .i64 y.1) := by rw [← hW2]; simp [go_sem]
   have b1 : W2.cell? ⟨W1.heap.size, 1, none⟩ = some (.int .i64 y.2.kind) := by rw [← hW2]; simp [go_sem]
   have b2' : W2.cell? ⟨W1.heap.size, 2, none⟩ = some (.int .i64 y.2.size) := by rw [← hW2]; simp [go_sem]
   have b3 : W2.cell? ⟨W1.heap.size, 3, none⟩ = some (.int .i64 y.2.count) := by rw [← hW2]; simp [go_sem]
   have b4 : W2.cell? ⟨W1.heap.size, 4, none⟩ = some (.slice A2 n2 cc2) := by rw [← hW2]; simp [go_sem]
   have b5 : W2.cell? ⟨W1.heap.size, 5, none⟩ = some (.slice B2 m2 e2) := by rw [← hW2]; simp [go_sem]
   have HE1 := hid hE1
   have HE2 := hid hE2
   clear hE1 hE2
   go_wp2_with fail
   clear hW1 hW2 c0 c1' c2 c3 c4 c5
   refine (HC.out _ (HE1.out.trans HE2.out)).mono ?_
   rintro e w5 ⟨rfl, hx5⟩
   have HX5 := hid (HX.out.trans ((HE1.out.trans HE2.out).trans hx5))
   clear hx5 x0 x1 x2 x3 x4 x5 y0 y1 y2 y3 y4 y5 z0 z1 z2 z3 z4 z5 b0 b1 b2' b3 b4 b5
   cases q with
   | true =>
    go_wp2
    go_roundw
    case rel => exact ⟨k + 1, by omega, by go_num, HX5, hid (take_eq_step HXX.out HYY.out (same1_iff.1 HQ.out) HT.out)⟩
    case measure => simp [intOf]; omega
   | false =>
    obtain rfl : z = false := by rw [← HZ.out]; exact sameF_false (take_eq_no HXX.out HYY.out (fun e => by rw [same1_iff.2 e] at HQ; cases HQ.out))
    go_wp2
    go_ret
    exact ⟨rfl, HX5.out⟩
  ·obtain rfl : k = n := by omega
   obtain rfl : z = true := by
    rw [← HZ.out]
    exact (sameF_iff l r).2 (take_eq_end HT.out HLL.out HRL.out)
   go_wp2
   go_ret
   exact ⟨rfl, HX.out⟩

set_option maxRecDepth 100000 in
set_option maxHeartbeats 4000000 in
theorem same_any : ∀ d, SameOk d := by
 intro d
 induction d using Nat.strongRecOn with
 | _ d ih =>
  intro w a b va vb ha hb
  obtain ⟨A1, n1, c1, B1, m1, e1, rfl, hE1, hF1, -⟩ := ha
  obtain ⟨A2, n2, c2, B2, m2, e2, rfl, hE2, hF2, -⟩ := hb
  obtain ⟨z, hz⟩ : ∃ z, sameT a b = z := ⟨_, rfl⟩
  rw [hz]
  have HZ := hid hz
  have HC1 := hid (fun w' (hw : Ext w w') => eqT_any d ih w' A1 A2 n1 n2 c1 c2 _ _ (hE1.ext hw) (hE2.ext hw))
  have HC2 := hid (fun w' (hw : Ext w w') => eqF_any d ih w' B1 B2 m1 m2 e1 e2 _ _ (hF1.ext hw) (hF2.ext hw))
  clear hz hE1 hF1 hE2 hF2 ih
  obtain ⟨k, s, c, e, f⟩ := a
  obtain ⟨k', s', c', e', f'⟩ := b
  simp only [Ty.kind, Ty.size, Ty.count, Ty.elem, Ty.fields] at HC1 HC2 ⊢
  rw [sameT] at HZ
  obtain ⟨W0, hW0⟩ : ∃ W0, (w.alloc (.cells #[.int .i64 k, .int .i64 s, .int .i64 c, .slice A1 n1 c1, .slice B1 m1 e1] 25)).alloc (.cells #[.int .i64 k', .int .i64 s', .int .i64 c', .slice A2 n2 c2, .slice B2 m2 e2] 25) = W0 := ⟨_, rfl⟩
  have hE0 : Ext w W0 := by rw [← hW0]; exact ((Ext.refl w).alloc _).alloc _
  have HE0 := hid hE0
  have a0 : W0.cell? ⟨w.heap.size, 0, none⟩ = some (.int .i64 k) := by rw [← hW0]; simp [go_sem]
  have a1 : W0.cell? ⟨w.heap.size, 1, none⟩ = some (.int .i64 s) := by rw [← hW0]; simp [go_sem]
  have a2 : W0.cell? ⟨w.heap.size, 2, none⟩ = some (.int .i64 c) := by rw [← hW0]; simp [go_sem]
  have a3 : W0.cell? ⟨w.heap.size, 3, none⟩ = some (.slice A1 n1 c1) := by rw [← hW0]; simp [go_sem]
  have b0 : W0.cell? ⟨w.heap.size + 1, 0, none⟩ = some (.int .i64 k') := by rw [← hW0]; simp [go_sem]
  have b1 : W0.cell? ⟨w.heap.size + 1, 1, none⟩ = some (.int .i64 s') := by rw [← hW0]; simp [go_sem]
  have b2 : W0.cell? ⟨w.heap.size + 1, 2, none⟩ = some (.int .i64 c') := by rw [← hW0]; simp [go_sem]
  have b3 : W0.cell? ⟨w.heap.size + 1, 3, none⟩ = some (.slice A2 n2 c2) := by rw [← hW0]; simp [go_sem]
  have a4 : W0.cell? ⟨w.heap.size, 4, none⟩ = some (.slice B1 m1 e1) := by rw [← hW0]; simp [go_sem]
  have b4 : W0.cell? ⟨w.heap.size + 1, 4, none⟩ = some (.slice B2 m2 e2) := by rw [← hW0]; simp [go_sem]
  clear hE0
  by_cases h1 : k = k'
  case neg =>
   have g1 : (k == k') = false := by simp [h1]
   obtain rfl : z = false := by rw [← HZ.out, decide_eq_false h1]; rfl
   clear h1
   go_enter Tryz.func86, Tryz.ntmps86
   go_wp2
   go_ret
   exact ⟨rfl, HE0.out⟩
  subst h1
  by_cases h2 : s = s'
  case neg =>
   have g1 : (s == s') = false := by simp [h2]
   obtain rfl : z = false := by rw [← HZ.out, decide_eq_false h2]; simp
   clear h2
   go_enter Tryz.func86, Tryz.ntmps86
   go_wp2
   go_ret
   exact ⟨rfl, HE0.out⟩
  subst h2
  by_cases h3 : c = c'
  case neg =>
   have g1 : (c == c') = false := by simp [h3]
   obtain rfl : z = false := by rw [← HZ.out, decide_eq_false h3]; simp
   clear h3
   go_enter Tryz.func86, Tryz.ntmps86
   go_wp2
   go_ret
   exact ⟨rfl, HE0.out⟩
  subst h3
  obtain ⟨q1, hq1⟩ : ∃ q, sameE e e' = q := ⟨_, rfl⟩
  obtain ⟨q2, hq2⟩ : ∃ q, sameF f f' = q := ⟨_, rfl⟩
  rw [hq1] at HC1 HZ
  rw [hq2] at HC2 HZ
  have HZ2 : Hid ((q1 && q2) = z) := hid (by rw [← HZ.out]; simp)
  clear hq1 hq2 HZ
  go_enter Tryz.func86, Tryz.ntmps86
  go_wp2_with fail
  refine (HC1.out _ HE0.out).mono ?_
  rintro e5 w5 ⟨rfl, hx5⟩
  have HX5 := hid (HE0.out.trans hx5)
  have a4 := hx5.cell a4
  have b4 := hx5.cell b4
  clear hx5 hW0
  cases q1 with
  | false =>
   obtain rfl : z = false := by rw [← HZ2.out]; rfl
   go_wp2
   go_ret
   exact ⟨rfl, HX5.out⟩
  | true =>
   obtain rfl : z = q2 := by rw [← HZ2.out]; rfl
   go_wp2_with fail
   refine (HC2.out _ HX5.out).mono ?_
   rintro e6 w6 ⟨rfl, hx6⟩
   have HX6 := hid (HX5.out.trans hx6)
   clear hx6
   go_wp2
   go_ret
   exact ⟨rfl, HX6.out⟩
end Go.Proofs.YtacmjhcfjhpkeaaGreatDoor

namespace Go.Proofs.YtacmjhcfjhpkeaaGreatDoor
open Go.RowKit Go.Deco
set_option linter.unusedSimpArgs false
set_option linter.unusedVariables false

/-- The cells of a box of five. -/
def Box5 (w : World) (b : Nat) (v0 v1 v2 v3 v4 : Value) : Prop :=
 w.cell? ⟨b, 0, none⟩ = some v0 ∧ w.cell? ⟨b, 1, none⟩ = some v1 ∧ w.cell? ⟨b, 2, none⟩ = some v2 ∧ w.cell? ⟨b, 3, none⟩ = some v3 ∧ w.cell? ⟨b, 4, none⟩ = some v4 ∧ ∀ i, w.frozen? ⟨b, i, none⟩ = false
theorem Box5.lt {w : World} {b : Nat} {v0 v1 v2 v3 v4 : Value} (h : Box5 w b v0 v1 v2 v3 v4) : b < w.heap.size := World.block_lt_of_cell? _ _ h.1
theorem Box5.ext {w w' : World} {b : Nat} {v0 v1 v2 v3 v4 : Value} (h : Box5 w b v0 v1 v2 v3 v4) (he : Ext w w') : Box5 w' b v0 v1 v2 v3 v4 :=
 ⟨he.cell h.1, he.cell h.2.1, he.cell h.2.2.1, he.cell h.2.2.2.1, he.cell h.2.2.2.2.1, fun i => (he.frozen (p := ⟨b, i, none⟩) h.lt).trans (h.2.2.2.2.2 i)⟩
theorem Box5.far {w : World} {b : Nat} {v0 v1 v2 v3 v4 : Value} (h : Box5 w b v0 v1 v2 v3 v4) {p : Addr} {u : Value} (hp : p.block ≠ b) : Box5 (w.setCell p u) b v0 v1 v2 v3 v4 := by
 obtain ⟨h0, h1, h2, h3, h4, hf⟩ := h
 have e : ∀ i v, w.cell? ⟨b, i, none⟩ = some v → (w.setCell p u).cell? ⟨b, i, none⟩ = some v := fun i v hv => by
  rw [World.cell?_of_block (w := w) (w' := w.setCell p u) (a := ⟨b, i, none⟩) (Below.heap_setCell _ _ _ b (fun e => hp e.symm))]
  exact hv
 exact ⟨e 0 _ h0, e 1 _ h1, e 2 _ h2, e 3 _ h3, e 4 _ h4, fun i => by rw [World.frozen?_setCell]; exact hf i⟩
theorem Box5.row {w : World} {b : Nat} {v0 v1 v2 v3 v4 : Value} (h : Box5 w b v0 v1 v2 v3 v4) : ∀ {g : Nat} (cs : List Value) (off : Nat), g ≠ b → Box5 (setRow w g off cs) b v0 v1 v2 v3 v4 := by
 intro g cs
 induction cs generalizing w with
 | nil => exact fun _ _ => h
 | cons c cs ih => exact fun off hg => ih (h.far (p := ⟨g, off, none⟩) (u := c) hg) (off + 1) hg
theorem Box5.put0 {w : World} {b : Nat} {v0 v1 v2 v3 v4 : Value} (h : Box5 w b v0 v1 v2 v3 v4) (u : Value) : Box5 (w.setCell ⟨b, 0, none⟩ u) b u v1 v2 v3 v4 := by
 obtain ⟨h0, h1, h2, h3, h4, hf⟩ := h
 exact ⟨by simp [World.cell?_setCell_same, h0], by simp [World.cell?_setCell_other, h1], by simp [World.cell?_setCell_other, h2], by simp [World.cell?_setCell_other, h3], by simp [World.cell?_setCell_other, h4], fun i => by rw [World.frozen?_setCell]; exact hf i⟩
theorem Box5.put1 {w : World} {b : Nat} {v0 v1 v2 v3 v4 : Value} (h : Box5 w b v0 v1 v2 v3 v4) (u : Value) : Box5 (w.setCell ⟨b, 1, none⟩ u) b v0 u v2 v3 v4 := by
 obtain ⟨h0, h1, h2, h3, h4, hf⟩ := h
 exact ⟨by simp [World.cell?_setCell_other, h0], by simp [World.cell?_setCell_same, h1], by simp [World.cell?_setCell_other, h2], by simp [World.cell?_setCell_other, h3], by simp [World.cell?_setCell_other, h4], fun i => by rw [World.frozen?_setCell]; exact hf i⟩
theorem Box5.put2 {w : World} {b : Nat} {v0 v1 v2 v3 v4 : Value} (h : Box5 w b v0 v1 v2 v3 v4) (u : Value) : Box5 (w.setCell ⟨b, 2, none⟩ u) b v0 v1 u v3 v4 := by
 obtain ⟨h0, h1, h2, h3, h4, hf⟩ := h
 exact ⟨by simp [World.cell?_setCell_other, h0], by simp [World.cell?_setCell_other, h1], by simp [World.cell?_setCell_same, h2], by simp [World.cell?_setCell_other, h3], by simp [World.cell?_setCell_other, h4], fun i => by rw [World.frozen?_setCell]; exact hf i⟩
theorem Box5.put3 {w : World} {b : Nat} {v0 v1 v2 v3 v4 : Value} (h : Box5 w b v0 v1 v2 v3 v4) (u : Value) : Box5 (w.setCell ⟨b, 3, none⟩ u) b v0 v1 v2 u v4 := by
 obtain ⟨h0, h1, h2, h3, h4, hf⟩ := h
 exact ⟨by simp [World.cell?_setCell_other, h0], by simp [World.cell?_setCell_other, h1], by simp [World.cell?_setCell_other, h2], by simp [World.cell?_setCell_same, h3], by simp [World.cell?_setCell_other, h4], fun i => by rw [World.frozen?_setCell]; exact hf i⟩
theorem Box5.put4 {w : World} {b : Nat} {v0 v1 v2 v3 v4 : Value} (h : Box5 w b v0 v1 v2 v3 v4) (u : Value) : Box5 (w.setCell ⟨b, 4, none⟩ u) b v0 v1 v2 v3 u := by
 obtain ⟨h0, h1, h2, h3, h4, hf⟩ := h
 exact ⟨by simp [World.cell?_setCell_other, h0], by simp [World.cell?_setCell_other, h1], by simp [World.cell?_setCell_other, h2], by simp [World.cell?_setCell_other, h3], by simp [World.cell?_setCell_same, h4], fun i => by rw [World.frozen?_setCell]; exact hf i⟩
theorem Box5.new (w : World) (v0 v1 v2 v3 v4 : Value) (t : TypeId) : Box5 (w.alloc (.cells #[v0, v1, v2, v3, v4] t)) w.heap.size v0 v1 v2 v3 v4 := ⟨by simp [go_sem], by simp [go_sem], by simp [go_sem], by simp [go_sem], by simp [go_sem], fun i => by simp [go_sem]⟩

def ClonedS {E : Type} (R : Rep E) (t : TypeId) (w : World) (S : Nat → Prop) (n : Nat) (l : List E) (e : Ending) (w' : World) : Prop := ∃ A c, e = .returned (.slice A n c) ∧ OwnS R w' w.heap.size t S (.slice A n c) l ∧ Ext w w'
theorem info_ty : (Tryz.prog.info? 25).map (fun i => (i.zero, i.size, i.bytes)) = some (some (.agg #[.int .i64 0, .int .i64 0, .int .i64 0, .slice none 0 0, .slice none 0 0]), 5, 72) := by kernel_rfl
theorem info_fd : (Tryz.prog.info? 48).map (fun i => (i.zero, i.size, i.bytes)) = some (some (.agg #[.int .i64 0, .int .i64 0, .int .i64 0, .int .i64 0, .slice none 0 0, .slice none 0 0]), 6, 80) := by kernel_rfl
set_option maxRecDepth 100000 in
set_option maxHeartbeats 400000 in
theorem clonety_any (d : Nat) (w : World) (S : Nat → Prop) (A : Option Addr) (n c : Nat) (l : List Ty) (hl : Sl (tyR d) w S (.slice A n c) l) (hn : n ≤ 1000000) :
  Calls Tryz.prog 88 #[.slice A n c] w (ClonedS (tyR d) 25 w S n l) := by
 have hz := fun (w : World) (a : Option Addr) (n c : Nat) => Lib.run_eql_slice_nil (P := Tryz.prog) w 22 25 a n c 0 0 Tryz.underlying22
 obtain ⟨i0, hi, hz0, hz1, hz2⟩ := info_parts info_ty
 have HL := hid hl; clear hl
 rcases A with _ | a
 ·obtain rfl : l = [] := by
   cases l with
   | nil => rfl
   | cons y ys =>
    obtain ⟨b, off, h⟩ := HL.out.at0 (by rw [HL.out.len]; simp)
    cases h
  obtain rfl : n = 0 := HL.out.len
  go_enter Tryz.func88, Tryz.ntmps88
  go_wp2
  go_ret
  exact ⟨none, 0, rfl, OwnS.nil, Ext.refl w⟩
 ·go_enter Tryz.func88, Tryz.ntmps88
  go_wp2_with (at_builtin; refine wpList_appS rfl (.tmp 5) (.tmp 6) 22 rfl w.heap.size 25 i0 _ 5 72 Tryz.underlying22 hi hz0 hz1 hz2 rfl (tyR d) (tyR_size d) _ [] rfl (OwnS.fresh0 (T := S) w (Nat.le_refl _)) (some a) n c l (fun b => S b ∧ b < w.heap.size) rfl ((HL.out.mono (fun b hb h => ⟨hb, h.lt⟩)).ext ((Ext.refl w).alloc _)) (fun _ hb _ => ⟨hb.1, own_ne hb.2⟩) (by simp; omega) (by simp; omega) (by simp) ?_; intro A' c' W' hown hg hloc; have HO := hid hown; clear hown; have HG := hid hg; clear hg; clear hloc)
  go_ret
  exact ⟨A', c', by simp, by simpa using HO.out, ((Ext.refl w).alloc _).grown HG.out (fun k hk => by rw [own_at hk]; simp)⟩
set_option maxRecDepth 100000 in
set_option maxHeartbeats 400000 in
theorem clonefd_any (d : Nat) (w : World) (S : Nat → Prop) (A : Option Addr) (n c : Nat) (l : List (Int × Ty)) (hl : Sl (fdR (tyR d)) w S (.slice A n c) l) (hn : n ≤ 1000000) :
  Calls Tryz.prog 81 #[.slice A n c] w (ClonedS (fdR (tyR d)) 48 w S n l) := by
 have hz := fun (w : World) (a : Option Addr) (n c : Nat) => Lib.run_eql_slice_nil (P := Tryz.prog) w 23 48 a n c 0 0 Tryz.underlying23
 obtain ⟨i0, hi, hz0, hz1, hz2⟩ := info_parts info_fd
 have HL := hid hl; clear hl
 rcases A with _ | a
 ·obtain rfl : l = [] := by
   cases l with
   | nil => rfl
   | cons y ys =>
    obtain ⟨b, off, h⟩ := HL.out.at0 (by rw [HL.out.len]; simp)
    cases h
  obtain rfl : n = 0 := HL.out.len
  go_enter Tryz.func81, Tryz.ntmps81
  go_wp2
  go_ret
  exact ⟨none, 0, rfl, OwnS.nil, Ext.refl w⟩
 ·go_enter Tryz.func81, Tryz.ntmps81
  go_wp2_with (at_builtin; refine wpList_appS rfl (.tmp 5) (.tmp 6) 23 rfl w.heap.size 48 i0 _ 6 80 Tryz.underlying23 hi hz0 hz1 hz2 rfl (fdR (tyR d)) (fdR_size d) _ [] rfl (OwnS.fresh0 (T := S) w (Nat.le_refl _)) (some a) n c l (fun b => S b ∧ b < w.heap.size) rfl ((HL.out.mono (fun b hb h => ⟨hb, h.lt⟩)).ext ((Ext.refl w).alloc _)) (fun _ hb _ => ⟨hb.1, own_ne hb.2⟩) (by simp; omega) (by simp; omega) (by simp) ?_; intro A' c' W' hown hg hloc; have HO := hid hown; clear hown; have HG := hid hg; clear hg; clear hloc)
  go_ret
  exact ⟨A', c', by simp, by simpa using HO.out, ((Ext.refl w).alloc _).grown HG.out (fun k hk => by rw [own_at hk]; simp)⟩
end Go.Proofs.YtacmjhcfjhpkeaaGreatDoor
