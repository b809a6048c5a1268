/- structs: proper, count, parts. structs: Merge: the plain part. -/
import Derived.Test.YtacmjhcfjhpkeaaGreatDoorStam
import Derived.Test.YtacmjhcfjhpkeaaGreatDoorPlam
import Derived.Test.YtacmjhcfjhpkeaaGreatDoorPlbm
import Derived.Shelf.Abstract
import Derived.Test.YtacmjhcfjhpkeaaGreatDoorStfm
import Derived.Test.YtacmjhcfjhpkeaaGreatDoorTyGm
namespace Go.Proofs.YtacmjhcfjhpkeaaGreatDoor
open Go.RowKit Go.Deco Go.Shelf
set_option linter.unusedSimpArgs false
set_option linter.unusedVariables false

theorem countT_arr {s c : Int} {e : List Ty} {f : List (Int × Ty)} : countT (.mk 4 s c e f) = c := rfl
theorem countT_ne {k s c : Int} {e : List Ty} {f : List (Int × Ty)} (h : k ≠ 4) : countT (.mk k s c e f) = f.length := if_neg h
set_option maxRecDepth 100000 in
set_option maxHeartbeats 1000000 in
theorem count_any (d : Nat) (w : World) (t : Ty) (v : Value) (hv : TyV d w All v t) : Calls Tryz.prog 57 #[v] w (TInt w (countT t)) := by
 obtain ⟨A, na, ca, B, nb, cb, rfl, hA, hB, -⟩ := hv
 have hlb := hB.len
 obtain ⟨W0, hW0⟩ : ∃ W0, w.alloc (.cells #[.int .i64 t.kind, .int .i64 t.size, .int .i64 t.count, .slice A na ca, .slice B nb cb] 25) = W0 := ⟨_, rfl⟩
 have hE0 : Ext w W0 := by rw [← hW0]; exact (Ext.refl w).alloc _
 have o0 : W0.cell? ⟨w.heap.size, 0, none⟩ = some (.int .i64 t.kind) := by rw [← hW0]; simp [go_sem]
 have o1 : W0.cell? ⟨w.heap.size, 1, none⟩ = some (.int .i64 t.size) := by rw [← hW0]; simp [go_sem]
 have o2 : W0.cell? ⟨w.heap.size, 2, none⟩ = some (.int .i64 t.count) := by rw [← hW0]; simp [go_sem]
 have o3 : W0.cell? ⟨w.heap.size, 3, none⟩ = some (.slice A na ca) := by rw [← hW0]; simp [go_sem]
 have o4 : W0.cell? ⟨w.heap.size, 4, none⟩ = some (.slice B nb cb) := by rw [← hW0]; simp [go_sem]
 have HE0 := hid hE0
 clear hE0
 obtain ⟨z, hz⟩ : ∃ z, countT t = z := ⟨_, rfl⟩
 rw [hz]
 have HZ := hid hz
 clear hz hA hB
 have HLB := hid hlb
 clear hlb
 obtain ⟨k, s, c, e, f⟩ := t
 simp only [Ty.kind, Ty.size, Ty.count, Ty.fields] at *
 by_cases h1 : k = 4
 ·subst h1
  have HZ2 : Hid (c = z) := hid (by rw [← HZ.out, countT_arr])
  go_enter Tryz.func57, Tryz.ntmps57
  go_wp2
  go_ret
  exact ⟨ret_int HZ2.out, HE0.out⟩
 ·have n1 : (k == 4) = false := by simp [h1]
  have HZ2 : Hid ((nb : Int) = z) := hid (by rw [← HZ.out, countT_ne h1, HLB.out])
  clear h1
  go_enter Tryz.func57, Tryz.ntmps57
  go_wp2
  go_ret
  exact ⟨ret_int HZ2.out, HE0.out⟩

set_option maxRecDepth 100000 in
set_option maxHeartbeats 1000000 in
theorem proper1_any (d : Nat) (w : World) (f : Int × Ty) (v : Value) (hv : FdV d w All v f) : Calls Tryz.prog 94 #[v] w (TBool w (decide (sizeT f.2 = 0))) := by
 obtain ⟨A, na, ca, B, nb, cb, rfl, hi, hv1⟩ := hv
 obtain ⟨W0, hW0⟩ : ∃ W0, w.alloc (.cells #[.int .i64 f.1, .int .i64 f.2.kind, .int .i64 f.2.size, .int .i64 f.2.count, .slice A na ca, .slice B nb cb] 48) = W0 := ⟨_, rfl⟩
 have hE0 : Ext w W0 := by rw [← hW0]; exact (Ext.refl w).alloc _
 have p0 : W0.cell? ⟨w.heap.size, 0, none⟩ = some (.int .i64 f.1) := by rw [← hW0]; simp [go_sem]
 have p1 : W0.cell? ⟨w.heap.size, 1, none⟩ = some (.int .i64 f.2.kind) := by rw [← hW0]; simp [go_sem]
 have p2 : W0.cell? ⟨w.heap.size, 2, none⟩ = some (.int .i64 f.2.size) := by rw [← hW0]; simp [go_sem]
 have p3 : W0.cell? ⟨w.heap.size, 3, none⟩ = some (.int .i64 f.2.count) := by rw [← hW0]; simp [go_sem]
 have p4 : W0.cell? ⟨w.heap.size, 4, none⟩ = some (.slice A na ca) := by rw [← hW0]; simp [go_sem]
 have p5 : W0.cell? ⟨w.heap.size, 5, none⟩ = some (.slice B nb cb) := by rw [← hW0]; simp [go_sem]
 have HE0 := hid hE0
 have HC := hid (sizeof_any d W0 f.2 _ (hv1.ext hE0))
 obtain ⟨z, hz⟩ : ∃ z, sizeT f.2 = z := ⟨_, rfl⟩
 rw [hz] at HC ⊢
 clear hi hv1 hz hE0
 go_enter Tryz.func94, Tryz.ntmps94
 go_wp2_with fail
 refine (HC.out).mono ?_
 rintro e w5 ⟨rfl, hx5⟩
 have HX5 := hid hx5
 clear hx5 hW0
 by_cases h : z = 0
 ·subst h
  go_wp2
  go_ret
  exact ⟨rfl, HE0.out.trans HX5.out⟩
 ·have n1 : (z == 0) = false := by simp [h]
  have N2 := hid (show decide (z = 0) = false from decide_eq_false h)
  clear h
  go_wp2
  go_ret
  exact ⟨ret_bool N2.out.symm, HE0.out.trans HX5.out⟩

def zeroF (f : Int × Ty) : Bool := decide (sizeT f.2 = 0)
/-- Whether the search found a part without bytes. -/
def Found0 (w : World) (n : Nat) (b : Bool) (e : Ending) (w' : World) : Prop := ∃ r : Int, e = .returned (.int .i64 r) ∧ decide (r ≥ 0) = b ∧ Ext w w'
set_option maxRecDepth 100000 in
set_option maxHeartbeats 2000000 in
theorem index0_any (d : Nat) (w : World) (A : Option Addr) (n c : Nat) (l : List (Int × Ty)) (hl : Sl (fdR (tyR d)) w All (.slice A n c) l) :
  Calls Tryz.prog 129 #[.slice A n c, .func (.func 94) #[] #[]] w (Found0 w n (l.any zeroF)) := by
 have hln := hl.len
 obtain ⟨hnc, hcm⟩ := hl.cap
 have hg : ∀ args w, (callFunc 94 args).run Tryz.prog w = .ok (.enter 94 args) w := enters_of Tryz.func94 (by kernel_rfl) rfl
 obtain ⟨z, hz⟩ : ∃ z, l.any zeroF = z := ⟨_, rfl⟩
 rw [hz]
 have HZ := hid hz
 have HS := hid hl
 have HL := hid hln
 clear hz hl hln
 unfold Found0
 go_enter Tryz.func129, Tryz.ntmps129
 go_wp2
 go_loopw [8] (fun i wr => ∃ k : Nat, k ≤ n ∧ i = .int .i64 k ∧ Hid (Ext w wr) ∧ Hid ((l.take k).any zeroF = false)) (fun i _ => n - (intOf i).toNat)
 case atStart => exact ⟨0, by omega, rfl, hid (Ext.refl w), hid (by simp)⟩
 case round =>
  obtain ⟨k, hk, rfl, HX, HA⟩ := hrel
  by_cases h1 : k < n
  ·obtain ⟨x, hx⟩ : ∃ x, l[k]? = some x := ⟨_, List.getElem?_eq_getElem (by have := HL.out; omega)⟩
   obtain ⟨d', b, off, A1, n1, c1, B1, m1, e1, hd, rfl, hv1, hi1, x0, x1, x2, x3, x4, x5⟩ := (HS.out.ext HX.out).fd_at hx
   have HC := hid (proper1_any d' wr x _ ⟨A1, n1, c1, B1, m1, e1, rfl, hi1, hv1⟩)
   obtain ⟨r, hr⟩ : ∃ r, decide (sizeT x.2 = 0) = r := ⟨_, rfl⟩
   rw [hr] at HC
   have HXX := hid hx
   have HR : Hid (zeroF x = r) := hid hr
   clear hd hv1 hi1 hx hr
   go_wp2_with fail
   refine (HC.out).mono ?_
   rintro e w1 ⟨rfl, hx1⟩
   have HX1 := hid (HX.out.trans hx1)
   clear hx1 x0 x1 x2 x3 x4 x5
   cases r with
   | true =>
    go_wp2
    go_ret
    refine ⟨_, rfl, ?_, HX1.out⟩
    rw [← HZ.out, List.any_eq_true.2 ⟨x, List.mem_of_getElem? HXX.out, HR.out⟩]
    exact decide_eq_true (by omega)
   | false =>
    go_wp2
    first
     | go_roundw
     | refine ⟨?rel, ?measure⟩
    case rel => exact ⟨k + 1, by omega, by go_num, HX1, hid (by rw [take_snoc' HXX.out, List.any_append, HA.out]; simp [HR.out])⟩
    case measure => simp [intOf]; omega
  ·obtain rfl : k = n := by omega
   have ha := HA.out
   rw [List.take_of_length_le (by have := HL.out; omega)] at ha
   have HA2 := hid ha
   clear ha
   go_wp2
   go_ret
   refine ⟨_, rfl, ?_, HX.out⟩
   rw [← HZ.out, HA2.out]
   rfl
set_option maxRecDepth 100000 in
set_option maxHeartbeats 2000000 in
theorem contains0_any (d : Nat) (w : World) (A : Option Addr) (n c : Nat) (l : List (Int × Ty)) (hl : Sl (fdR (tyR d)) w All (.slice A n c) l) :
  Calls Tryz.prog 93 #[.slice A n c, .func (.func 94) #[] #[]] w (TBool w (l.any zeroF)) := by
 have HC := hid (index0_any d w A n c l hl)
 obtain ⟨z, hz⟩ : ∃ z, l.any zeroF = z := ⟨_, rfl⟩
 rw [hz] at HC ⊢
 clear hl hz
 go_enter Tryz.func93, Tryz.ntmps93
 go_wp2_with fail
 refine (HC.out).mono ?_
 rintro e w1 ⟨r, rfl, hr, hx1⟩
 have HX1 := hid hx1
 clear hx1
 go_wp2
 go_ret
 exact ⟨rfl, HX1.out⟩

theorem properT_arr {s c : Int} {e : List Ty} {f : List (Int × Ty)} : properT (.mk 4 s c e f) = decide (0 < sizeT (.mk 4 s c e f)) := rfl
theorem properT_str {s c : Int} {e : List Ty} {f : List (Int × Ty)} : properT (.mk 5 s c e f) = !f.any zeroF := by
 have h : (fun f : Int × Ty => !!decide (sizeT f.2 = 0)) = zeroF := funext fun f => by simp [zeroF]
 show (decide True && f.all fun f => !decide (sizeT f.2 = 0)) = _
 rw [List.all_eq_not_any_not, h]
 rfl
theorem properT_no {k s c : Int} {e : List Ty} {f : List (Int × Ty)} (h : k ≠ 4) (h' : k ≠ 5) : properT (.mk k s c e f) = false := by
 unfold properT
 rw [if_neg (show ¬ (Ty.mk k s c e f).kind = 4 from h), decide_eq_false (show ¬ (Ty.mk k s c e f).kind = 5 from h')]
 rfl
set_option maxRecDepth 100000 in
set_option maxHeartbeats 2000000 in
theorem proper_any (d : Nat) (w : World) (t : Ty) (v : Value) (hv : TyV d w All v t) : Calls Tryz.prog 56 #[v] w (TBool w (properT t)) := by
 have HV := hid hv
 obtain ⟨A, na, ca, B, nb, cb, rfl, hA, hB, -⟩ := hv
 obtain ⟨W0, hW0⟩ : ∃ W0, w.alloc (.cells #[.int .i64 t.kind, .int .i64 t.size, .int .i64 t.count, .slice A na ca, .slice B nb cb] 25) = W0 := ⟨_, rfl⟩
 have hE0 : Ext w W0 := by rw [← hW0]; exact (Ext.refl w).alloc _
 have o0 : W0.cell? ⟨w.heap.size, 0, none⟩ = some (.int .i64 t.kind) := by rw [← hW0]; simp [go_sem]
 have o1 : W0.cell? ⟨w.heap.size, 1, none⟩ = some (.int .i64 t.size) := by rw [← hW0]; simp [go_sem]
 have o2 : W0.cell? ⟨w.heap.size, 2, none⟩ = some (.int .i64 t.count) := by rw [← hW0]; simp [go_sem]
 have o3 : W0.cell? ⟨w.heap.size, 3, none⟩ = some (.slice A na ca) := by rw [← hW0]; simp [go_sem]
 have o4 : W0.cell? ⟨w.heap.size, 4, none⟩ = some (.slice B nb cb) := by rw [← hW0]; simp [go_sem]
 have HE0 := hid hE0
 clear hE0
 have HC := hid (sizeof_any d W0 t _ (HV.out.ext HE0.out))
 have HC2 := hid (contains0_any d W0 B nb cb t.fields (hB.ext HE0.out))
 obtain ⟨z, hz⟩ : ∃ z, properT t = z := ⟨_, rfl⟩
 rw [hz]
 have HZ := hid hz
 clear hz hA hB HV
 obtain ⟨k, s, c, e, f⟩ := t
 simp only [Ty.kind, Ty.size, Ty.count, Ty.fields] at *
 by_cases h1 : k = 4
 ·subst h1
  have hp := properT_arr (s := s) (c := c) (e := e) (f := f)
  rw [HZ.out] at hp
  obtain ⟨x, hx⟩ : ∃ x, sizeT (.mk 4 s c e f) = x := ⟨_, rfl⟩
  rw [hx] at HC hp
  have HP := hid hp
  clear hp hx
  go_enter Tryz.func56, Tryz.ntmps56
  go_wp2_with fail
  refine (HC.out).mono ?_
  rintro e w1 ⟨rfl, hx1⟩
  have HX1 := hid hx1
  clear hx1 hW0
  by_cases h0 : 0 < x
  ·have d1 : decide (x > 0) = true := decide_eq_true h0
   obtain rfl : z = true := by rw [HP.out]; exact decide_eq_true h0
   go_wp2
   go_ret
   exact ⟨rfl, HE0.out.trans HX1.out⟩
  ·have d1 : decide (x > 0) = false := decide_eq_false h0
   obtain rfl : z = false := by rw [HP.out]; exact decide_eq_false h0
   clear h0
   go_wp2
   go_ret
   exact ⟨rfl, HE0.out.trans HX1.out⟩
 ·have n1 : (k == 4) = false := by simp [h1]
  by_cases h2 : k = 5
  ·subst h2
   obtain ⟨r, hr⟩ : ∃ r, f.any zeroF = r := ⟨_, rfl⟩
   have hp := properT_str (s := s) (c := c) (e := e) (f := f)
   rw [HZ.out, hr] at hp
   rw [hr] at HC2
   subst hp
   clear hr h1
   go_enter Tryz.func56, Tryz.ntmps56
   go_wp2_with fail
   refine (HC2.out).mono ?_
   rintro e w1 ⟨rfl, hx1⟩
   have HX1 := hid hx1
   clear hx1 hW0
   cases r <;>
   ·go_wp2
    go_ret
    exact ⟨rfl, HE0.out.trans HX1.out⟩
  ·have n2 : (k == 5) = false := by simp [h2]
   have hp := properT_no (s := s) (c := c) (e := e) (f := f) h1 h2
   rw [HZ.out] at hp
   subst hp
   clear h1 h2
   go_enter Tryz.func56, Tryz.ntmps56
   go_wp2
   go_ret
   exact ⟨rfl, HE0.out⟩

/-- Parts: a row that may be shared. -/
def PartsIs (d : Nat) (T : Nat → Prop) (w : World) (l : List (Int × Ty)) (e : Ending) (w' : World) : Prop := ∃ A c, e = .returned (.slice A l.length c) ∧ Sl (fdR (tyR d)) w' (fun b => T b ∨ w.heap.size ≤ b) (.slice A l.length c) l ∧ Ext w w'
theorem partsT_ne {t : Ty} (h : t.kind ≠ 4) : partsT t = t.fields := if_neg h
theorem partsT_arr {t x : Ty} {r : List Ty} (h : t.kind = 4) (he : t.elem = x :: r) : partsT t = rowParts x (sizeT x) t.count.toNat := by rw [partsT, if_pos h, he]
theorem rowParts_len (t : Ty) (n : Int) : ∀ k, (rowParts t n k).length = k
 | 0 => rfl
 | k + 1 => by rw [rowParts, List.length_append, rowParts_len t n k]; rfl
set_option maxRecDepth 100000 in
set_option maxHeartbeats 4000000 in
theorem parts_any (d : Nat) (T : Nat → Prop) (w : World) (t : Ty) (v : Value) (hv : TyV d w T v t) (hok : t.kind = 4 → t.elem ≠ [] ∧ 0 ≤ t.count ∧ t.count ≤ 100000) : Calls Tryz.prog 59 #[v] w (PartsIs d T w (partsT t)) := by
 obtain ⟨A, na, ca, B, nb, cb, rfl, hA, hB, -⟩ := hv
 have hlb := hB.len
 obtain ⟨W0, hW0⟩ : ∃ W0, w.alloc (.cells #[.int .i64 t.kind, .int .i64 t.size, .int .i64 t.count, .slice A na ca, .slice B nb cb] 25) = W0 := ⟨_, rfl⟩
 have hE0 : Ext w W0 := by rw [← hW0]; exact (Ext.refl w).alloc _
 have o0 : W0.cell? ⟨w.heap.size, 0, none⟩ = some (.int .i64 t.kind) := by rw [← hW0]; simp [go_sem]
 have o1 : W0.cell? ⟨w.heap.size, 1, none⟩ = some (.int .i64 t.size) := by rw [← hW0]; simp [go_sem]
 have o2 : W0.cell? ⟨w.heap.size, 2, none⟩ = some (.int .i64 t.count) := by rw [← hW0]; simp [go_sem]
 have o3 : W0.cell? ⟨w.heap.size, 3, none⟩ = some (.slice A na ca) := by rw [← hW0]; simp [go_sem]
 have o4 : W0.cell? ⟨w.heap.size, 4, none⟩ = some (.slice B nb cb) := by rw [← hW0]; simp [go_sem]
 have HE0 := hid hE0
 clear hE0
 by_cases h1 : t.kind = 4
 ·obtain ⟨he, hc0, hc1⟩ := hok h1
  obtain ⟨x, r, hxr⟩ := List.exists_cons_of_ne_nil he
  obtain ⟨m, hm⟩ : ∃ m : Nat, t.count = (m : Int) := ⟨t.count.toNat, by omega⟩
  have hpt : partsT t = rowParts x (sizeT x) m := by rw [partsT_arr h1 hxr, hm]; rfl
  rw [hpt]
  have hlen := hA.len
  rw [hxr] at hlen hA
  obtain ⟨d', b, off, A1, n1, c1, B1, m1, e1, hd, rfl, hv1, x0, x1, x2, x3, x4⟩ := hA.ty_at (k := 0) (t := x) rfl
  rw [Nat.zero_mul, Nat.add_zero] at x0 x1 x2 x3 x4
  have HC := hid (sizeof_any d' W0 x _ ((TyV.ext hv1 HE0.out).all))
  obtain ⟨sz, hsz⟩ : ∃ sz, sizeT x = sz := ⟨_, rfl⟩
  have hs0 := Go.Deco.sizeT_nonneg x
  have hs1 := sizeT_le x
  rw [hsz] at HC hs0 hs1 ⊢
  have HV1 := hid hv1
  obtain ⟨tk, ts, tc, te, tf⟩ := t
  simp only [Ty.kind, Ty.size, Ty.count, Ty.fields] at h1 hm o0 o1 o2 hW0 ⊢
  subst h1 hm
  have HD := hid hd
  have HLEN := hid (show 0 < na by rw [hlen]; simp)
  have hna : 0 < na := HLEN.out
  have hna1 : (0 : Int) < (na : Int) := by omega
  obtain ⟨j0, hj, hj0, hj1, hj2⟩ := info_parts info_fd
  have HJ := hid hj
  have HJ0 := hid hj0
  have HJ1 := hid hj1
  have HJ2 := hid hj2
  have HW0 := hid hW0
  have x0 := HE0.out.cell x0
  have x1 := HE0.out.cell x1
  have x2 := HE0.out.cell x2
  have x3 := HE0.out.cell x3
  have x4 := HE0.out.cell x4
  have hm1 : m ≤ 100000 := by have : (m : Int) ≤ 100000 := hc1; omega
  clear hj hj0 hj1 hj2 hv1 hd hlen hA hB hlb hok hpt he hc0 hc1 hxr hsz
  unfold PartsIs
  go_enter Tryz.func59, Tryz.ntmps59
  go_wp2_with fail
  refine (HC.out).mono ?_
  rintro e w1 ⟨rfl, hx1⟩
  have HX1 := hid (HE0.out.trans hx1)
  have o0 := hx1.cell o0
  have o1 := hx1.cell o1
  have o2 := hx1.cell o2
  have o3 := hx1.cell o3
  have o4 := hx1.cell o4
  have x0 := hx1.cell x0
  have x1 := hx1.cell x1
  have x2 := hx1.cell x2
  have x3 := hx1.cell x3
  have x4 := hx1.cell x4
  clear hx1 hW0
  go_wp2
  go_loopw [18, 3] (fun i s3 wr => ∃ (k : Nat) (A2 : Option Addr) (c2 : Nat), k ≤ m ∧ i = .int .i64 k ∧ s3 = .slice A2 k c2 ∧ Hid (OwnS (fdR (tyR d)) wr w1.heap.size 48 T (.slice A2 k c2) (rowParts x sz k)) ∧ Hid (Ext w1 wr)) (fun i _ _ => m - (intOf i).toNat)
  case atStart => exact ⟨0, none, 0, by omega, rfl, rfl, hid OwnS.nil, hid (Ext.refl _)⟩
  case round =>
   obtain ⟨k, A2, c2, hk, rfl, rfl, HO, HX⟩ := hrel
   by_cases hkm : k < m
   ·have hkm1 : (k : Int) < (m : Int) := by omega
    have o0 := HX.out.cell o0
    have o1 := HX.out.cell o1
    have o2 := HX.out.cell o2
    have o3 := HX.out.cell o3
    have o4 := HX.out.cell o4
    have x0 := HX.out.cell x0
    have x1 := HX.out.cell x1
    have x2 := HX.out.cell x2
    have x3 := HX.out.cell x3
    have x4 := HX.out.cell x4
    have hy0 : 0 ≤ (k : Int) * sz := Int.mul_nonneg (by omega) hs0
    have hy1 : (k : Int) * sz ≤ 100000 * 65536 := Int.mul_le_mul (by omega) hs1 hs0 (by omega)
    obtain ⟨y, hy⟩ : ∃ y, (k : Int) * sz = y := ⟨_, rfl⟩
    rw [hy] at hy0 hy1
    have hw : IntKind.i64.wrap ((k : Int) * sz) = y := by rw [hy]; exact IntWalk.i64_in _ (by omega)
    have HXW := hid (HX1.out.trans HX.out)
    have HREL : Hid ((fdR (tyR d)).rel wr (fun b => T b ∧ some b ≠ (Value.slice A2 k c2).ownBlock) [.int .i64 y, .int .i64 x.kind, .int .i64 x.size, .int .i64 x.count, .slice A1 n1 c1, .slice B1 m1 e1] (y, x)) := hid (by
     rw [HD.out]
     refine fd_rel.2 ⟨A1, n1, c1, B1, m1, e1, rfl, by show i64b y; unfold i64b; omega, ((HV1.out.mono (S' := fun b => T b ∧ b < w.heap.size) fun b hb hi => ⟨hb, hi.lt⟩).ext HXW.out).mono fun b hb _ => ⟨hb.1, fun e => ?_⟩⟩
     have hb' : b < w.heap.size := hb.2
     have := (HO.out.block b e.symm).1
     have := HX1.out.size
     omega)
    have HRP : Hid (rowParts x sz (k + 1) = rowParts x sz k ++ [(y, x)]) := hid (by rw [rowParts, hy])
    have HRL := hid (rowParts_len x sz k)
    clear hy
    go_wp2_with (first
     | (at_builtin; refine wpList_app1l rfl (.tmp 21) (.tmp 30) 23 rfl w1.heap.size 48 j0 _ 6 80 Tryz.underlying23 HJ.out HJ0.out HJ1.out HJ2.out rfl (fdR (tyR d)) (fdR_size _) (.slice A2 k c2) (rowParts x sz k) rfl HO.out wr.heap.size rfl (y, x) rfl HREL.out (by have := HRL.out; omega) (by have := HRL.out; omega) (by exact HX.out.size) ?_; intro A6 c6 w6 hown6 hg6 hloc6; rw [HRL.out] at hown6; have HO6 := hid hown6; have HX6 := hid ((HX.out.alloc _).grown hg6 (fun q hq => (HO.out.block q hq).1)); clear hown6 hg6 hloc6; rw [HRL.out])
     | fail)
    clear o0 o1 o2 o3 o4 x0 x1 x2 x3 x4
    first
     | go_roundw
     | refine ⟨?rel, ?measure⟩
    case rel => exact ⟨k + 1, A6, c6, by omega, by go_num, rfl, hid (by rw [HRP.out]; exact HO6.out), HX6⟩
    case measure => simp [intOf]; omega
   ·obtain rfl : k = m := by omega
    have hl := rowParts_len x sz k
    go_wp2
    go_ret
    have ho := HO.out.slT (S := fun b => T b ∨ w.heap.size ≤ b) (fun b hb => .inl hb) (fun b hb => .inr (by
     have h1 := (HO.out.block b hb).1
     have h2 := HX1.out.size
     omega))
    rw [hl]
    exact ⟨A2, c2, rfl, ho, HX1.out.trans HX.out⟩
 ·have n1 : (t.kind == 4) = false := by simp [h1]
  have n2 : (t.kind != 4) = true := by simp [h1]
  have HP := hid (partsT_ne h1)
  obtain ⟨L, hL⟩ : ∃ L, partsT t = L := ⟨_, rfl⟩
  rw [hL] at HP ⊢
  have HB := hid (hB.ext HE0.out)
  have HLB := hid hlb
  clear hA hB hlb hok h1 hL
  unfold PartsIs
  go_enter Tryz.func59, Tryz.ntmps59
  go_wp2
  go_ret
  have hb := HB.out
  rw [← HP.out] at hb
  have hn : nb = L.length := by rw [HLB.out, HP.out]
  subst hn
  exact ⟨B, cb, rfl, hb.mono fun b hb _ => .inl hb, HE0.out⟩
end Go.Proofs.YtacmjhcfjhpkeaaGreatDoor

namespace Go.Proofs.YtacmjhcfjhpkeaaGreatDoor
open Go.RowKit Go.Deco
set_option linter.unusedSimpArgs false
set_option linter.unusedVariables false

theorem rowParts_mem (t : Ty) (n : Int) : ∀ (k : Nat), ∀ f ∈ rowParts t n k, f.2 = t ∧ ∃ j : Nat, j < k ∧ f.1 = j * n
 | 0, f, hf => by cases hf
 | k + 1, f, hf => by
  rw [rowParts] at hf
  rcases List.mem_append.1 hf with hf | hf
  ·obtain ⟨h1, j, hj, h2⟩ := rowParts_mem t n k f hf
   exact ⟨h1, j, by omega, h2⟩
  ·rw [List.mem_singleton] at hf
   subst hf
   exact ⟨rfl, k, by omega, rfl⟩
/-- What Merge wants of a type whose parts it takes. -/
structure PartsOk (t : Ty) : Prop where
 arr : t.kind = 4 → t.elem ≠ [] ∧ 0 ≤ t.count ∧ t.count ≤ 100000
 len : (partsT t).length ≤ 1024
 all : ∀ f ∈ partsT t, (0 ≤ f.1 ∧ f.1 ≤ 131072) ∧ bnT f.2 = true
theorem parts_ok {t : Ty} (hc : chkT t = 0) (hp : properT t = true) (hn : countT t ≤ 1024) : PartsOk t := by
 obtain ⟨h1, h2, h3⟩ := chkT_zero.1 hc
 have hbn := bnT_parts (bn_good t h2 h3)
 rcases formT_cases h2 with h | ⟨s, hs, h⟩ | ⟨x, rfl, hx⟩ | ⟨x, n, rfl, hn1, hn2, hx⟩ | ⟨l, rfl, hl⟩
 ·rcases h with rfl | rfl
  ·exact absurd (hp.symm.trans (properT_no (by decide) (by decide))) (by simp)
  ·exact absurd (hp.symm.trans (properT_no (by decide) (by decide))) (by simp)
 ·rcases h with rfl | rfl
  ·exact absurd (hp.symm.trans (properT_no (by decide) (by decide))) (by simp)
  ·exact absurd (hp.symm.trans (properT_no (by decide) (by decide))) (by simp)
 ·exact absurd (hp.symm.trans (properT_no (by decide) (by decide))) (by simp)
 ·have hn3 : n ≤ 1024 := hn
  have hpt : partsT (Ty.arr x n) = rowParts x (sizeT x) n.toNat := partsT_arr rfl rfl
  have hw : szT (Ty.arr x n) ≤ 65536 := by
   have h := wiT_eq (Ty.arr x n)
   rw [h3] at h
   have h := h.symm
   simp only [Bool.and_eq_true, decide_eq_true_eq] at h
   exact h.1.1.2
  rw [sz_arr] at hw
  have hx0 := szT_nonneg x hx
  have hs1 : sizeT x ≤ szT x := by unfold sizeT; split <;> omega
  have hs0 := Go.Deco.sizeT_nonneg x
  refine ⟨fun _ => ⟨(List.cons_ne_nil x [] : [x] ≠ []), by show 0 ≤ n; omega, by show n ≤ 100000; omega⟩, by rw [hpt, rowParts_len]; omega, fun f hf => ?_⟩
  rw [hpt] at hf
  obtain ⟨e, j, hj, hf1⟩ := rowParts_mem _ _ _ f hf
  refine ⟨?_, by rw [e]; exact hbn.2.2.1 x (List.mem_singleton.2 rfl : x ∈ [x])⟩
  rw [hf1]
  refine ⟨Int.mul_nonneg (by omega) hs0, ?_⟩
  have hm : (j : Int) * sizeT x ≤ n * szT x := Int.mul_le_mul (by omega) hs1 hs0 (by omega)
  have : min (n * szT x) 65537 ≤ 65536 := hw
  omega
 ·have hpt : partsT (Ty.str l) = l := partsT_ne (t := Ty.str l) (show (5 : Int) ≠ 4 by decide)
  have hlen : (l.length : Int) ≤ 1024 := by
   have : countT (Ty.str l) = l.length := countT_ne (show (5 : Int) ≠ 4 by decide)
   omega
  refine ⟨fun h => absurd h (show ¬ (5 : Int) = 4 by decide), by rw [hpt]; omega, fun f hf => ?_⟩
  rw [hpt] at hf
  have h := formF_all hl f hf
  exact ⟨by omega, hbn.2.2.2 f hf⟩
end Go.Proofs.YtacmjhcfjhpkeaaGreatDoor
