/- decompilerref31.text, Print. decompilerref31.Print, decompilerref34.Name. -/
import Derived.Test.YtacmjhcfjhpkeaaGreatDoorTxAm
import Derived.Test.YtacmjhcfjhpkeaaGreatDoorRdfm
import Derived.Laws.BitsAllLaws
namespace Go.Proofs.YtacmjhcfjhpkeaaGreatDoor
open Go.RowKit Go.Deco
set_option linter.unusedSimpArgs false
set_option linter.unusedVariables false

theorem sum_ok {a b : List Nat} (h : a.length + b.length ≤ 1000000000) : ¬ (strOf a).size + (strOf b).size > 9223372036854775807 := by rw [strOf_size, strOf_size]; omega
theorem nod_elem {x : Ty} {k s c : Int} {f : List (Int × Ty)} {n : Nat} (h : nodT (.mk k s c [x] f) ≤ n) : nodT x ≤ n := by rw [nodT, nodE, nodE] at h; omega
theorem nodF_mem : ∀ {l : List (Int × Ty)} {f : Int × Ty}, f ∈ l → nodT f.2 ≤ nodF l
 | (o, t) :: l, f, h => by
  rw [nodF]
  rcases List.mem_cons.1 h with rfl | h
  ·exact Nat.le_add_right ..
  ·have := nodF_mem h; omega
theorem nodF_take : ∀ (l : List (Int × Ty)) (k : Nat), nodF (l.take k) ≤ nodF l
 | [], k => by simp
 | (o, t) :: l, 0 => by simp [nodF]
 | (o, t) :: l, k + 1 => by
  rw [List.take_succ_cons, nodF, nodF]
  have := nodF_take l k
  omega
theorem txt_int (s : Int) : txtT (.mk 1 s 0 [] []) = [105, 110, 116] ++ decN (8 * s).toNat := by simp [txtT]
theorem txt_uint (s : Int) : txtT (.mk 2 s 0 [] []) = [117, 105, 110, 116] ++ decN (8 * s).toNat := by simp [txtT]
theorem txt_ptr (x : Ty) : txtT (.mk 3 0 0 [x] []) = 42 :: txtT x := by simp [txtT, txtE]
theorem txt_arr (x : Ty) (c : Int) : txtT (.mk 4 0 c [x] []) = ([91] ++ decN c.toNat ++ [93]) ++ txtT x := by simp [txtT, txtE]
theorem txt_str (l : List (Int × Ty)) : txtT (.mk 5 0 0 [] l) = (123 :: txtF true l) ++ [125] := by simp [txtT]
set_option maxRecDepth 100000 in
set_option maxHeartbeats 4000000 in
theorem text_any : ∀ (d : Nat) (w : World) (t : Ty) (v : Value), TyV d w All v t → formT t = true → nodT t ≤ 1000000 → Calls Tryz.prog 65 #[v] w (StrIs w (txtT t)) := by
 intro d
 induction d using Nat.strongRecOn with
 | _ d ih =>
  intro w t v hv hform hnod
  obtain ⟨A, na, ca, B, nb, cb, rfl, hE, hF, hk, hs, hc⟩ := hv
  have hla := hE.len
  have hlb := hF.len
  obtain ⟨hac, ham⟩ := hE.cap
  obtain ⟨hbc, hbm⟩ := hF.cap
  obtain ⟨W0, hW0⟩ : ∃ W0, w.alloc (.cells #[.int .i64 t.kind, .int .i64 t.size, .int .i64 t.count, .slice A na ca, .slice B nb cb] 25) = W0 := ⟨_, rfl⟩
  have hE0 : Ext w W0 := by rw [← hW0]; exact (Ext.refl w).alloc _
  have o0 : W0.cell? ⟨w.heap.size, 0, none⟩ = some (.int .i64 t.kind) := by rw [← hW0]; simp [go_sem]
  have o1 : W0.cell? ⟨w.heap.size, 1, none⟩ = some (.int .i64 t.size) := by rw [← hW0]; simp [go_sem]
  have o2 : W0.cell? ⟨w.heap.size, 2, none⟩ = some (.int .i64 t.count) := by rw [← hW0]; simp [go_sem]
  have o3 : W0.cell? ⟨w.heap.size, 3, none⟩ = some (.slice A na ca) := by rw [← hW0]; simp [go_sem]
  have o4 : W0.cell? ⟨w.heap.size, 4, none⟩ = some (.slice B nb cb) := by rw [← hW0]; simp [go_sem]
  have HE := hid hE
  have HF := hid hF
  have HLA := hid hla
  have HLB := hid hlb
  have HE0 := hid hE0
  have HIH := hid ih
  clear hE hF hla hlb hE0 ih hk hs hc
  rcases formT_cases hform with (rfl | rfl) | ⟨s, hs, (rfl | rfl)⟩ | ⟨x, rfl, hx⟩ | ⟨x, m, rfl, hm1, hm2, hx⟩ | ⟨l, rfl, hl⟩
  ·simp only [Ty.kind, Ty.size, Ty.count, Ty.unk] at *
   go_enter Tryz.func65, Tryz.ntmps65
   go_wp2
   go_ret
   exact ⟨rfl, HE0.out⟩
  ·simp only [Ty.kind, Ty.size, Ty.count, Ty.any] at *
   go_enter Tryz.func65, Tryz.ntmps65
   go_wp2
   go_ret
   exact ⟨rfl, HE0.out⟩
  ·
   simp only [Ty.kind, Ty.size, Ty.count, Ty.int] at *
   rcases hs with rfl | rfl | rfl
   ·obtain ⟨D, hD⟩ : ∃ D, decN 8 = D := ⟨_, rfl⟩
    have HD1 := hid (fun w' => decimal_any w' 8 (by omega))
    rw [hD] at HD1
    have hz := sum_ok (a := [105, 110, 116]) (b := D) (by rw [← hD]; have := (decN_len 8).1; simp; omega)
    have HDD := hid hD
    clear hD
    go_enter Tryz.func65, Tryz.ntmps65
    go_wp2_with fail
    refine (HD1.out _).mono ?_
    rintro e w5 ⟨rfl, hx5⟩
    have HX5 := hid (HE0.out.trans hx5)
    clear hx5
    go_wp2
    go_ret
    refine ⟨?_, HX5.out⟩
    rw [txt_int]
    have e := HDD.out
    first
     | rw [show ((8 : Int) * 1).toNat = 8 from rfl, e, ← strOf_app]
     | rw [show ((8 : Int) * 2).toNat = 16 from rfl, e, ← strOf_app]
     | rw [show ((8 : Int) * 4).toNat = 32 from rfl, e, ← strOf_app]
    rfl
   ·obtain ⟨D, hD⟩ : ∃ D, decN 16 = D := ⟨_, rfl⟩
    have HD1 := hid (fun w' => decimal_any w' 16 (by omega))
    rw [hD] at HD1
    have hz := sum_ok (a := [105, 110, 116]) (b := D) (by rw [← hD]; have := (decN_len 16).1; simp; omega)
    have HDD := hid hD
    clear hD
    go_enter Tryz.func65, Tryz.ntmps65
    go_wp2_with fail
    refine (HD1.out _).mono ?_
    rintro e w5 ⟨rfl, hx5⟩
    have HX5 := hid (HE0.out.trans hx5)
    clear hx5
    go_wp2
    go_ret
    refine ⟨?_, HX5.out⟩
    rw [txt_int]
    have e := HDD.out
    first
     | rw [show ((8 : Int) * 1).toNat = 8 from rfl, e, ← strOf_app]
     | rw [show ((8 : Int) * 2).toNat = 16 from rfl, e, ← strOf_app]
     | rw [show ((8 : Int) * 4).toNat = 32 from rfl, e, ← strOf_app]
    rfl
   ·obtain ⟨D, hD⟩ : ∃ D, decN 32 = D := ⟨_, rfl⟩
    have HD1 := hid (fun w' => decimal_any w' 32 (by omega))
    rw [hD] at HD1
    have hz := sum_ok (a := [105, 110, 116]) (b := D) (by rw [← hD]; have := (decN_len 32).1; simp; omega)
    have HDD := hid hD
    clear hD
    go_enter Tryz.func65, Tryz.ntmps65
    go_wp2_with fail
    refine (HD1.out _).mono ?_
    rintro e w5 ⟨rfl, hx5⟩
    have HX5 := hid (HE0.out.trans hx5)
    clear hx5
    go_wp2
    go_ret
    refine ⟨?_, HX5.out⟩
    rw [txt_int]
    have e := HDD.out
    first
     | rw [show ((8 : Int) * 1).toNat = 8 from rfl, e, ← strOf_app]
     | rw [show ((8 : Int) * 2).toNat = 16 from rfl, e, ← strOf_app]
     | rw [show ((8 : Int) * 4).toNat = 32 from rfl, e, ← strOf_app]
    rfl
  ·
   simp only [Ty.kind, Ty.size, Ty.count, Ty.uint] at *
   rcases hs with rfl | rfl | rfl
   ·obtain ⟨D, hD⟩ : ∃ D, decN 8 = D := ⟨_, rfl⟩
    have HD1 := hid (fun w' => decimal_any w' 8 (by omega))
    rw [hD] at HD1
    have hz := sum_ok (a := [117, 105, 110, 116]) (b := D) (by rw [← hD]; have := (decN_len 8).1; simp; omega)
    have HDD := hid hD
    clear hD
    go_enter Tryz.func65, Tryz.ntmps65
    go_wp2_with fail
    refine (HD1.out _).mono ?_
    rintro e w5 ⟨rfl, hx5⟩
    have HX5 := hid (HE0.out.trans hx5)
    clear hx5
    go_wp2
    go_ret
    refine ⟨?_, HX5.out⟩
    rw [txt_uint]
    have e := HDD.out
    first
     | rw [show ((8 : Int) * 1).toNat = 8 from rfl, e, ← strOf_app]
     | rw [show ((8 : Int) * 2).toNat = 16 from rfl, e, ← strOf_app]
     | rw [show ((8 : Int) * 4).toNat = 32 from rfl, e, ← strOf_app]
    rfl
   ·obtain ⟨D, hD⟩ : ∃ D, decN 16 = D := ⟨_, rfl⟩
    have HD1 := hid (fun w' => decimal_any w' 16 (by omega))
    rw [hD] at HD1
    have hz := sum_ok (a := [117, 105, 110, 116]) (b := D) (by rw [← hD]; have := (decN_len 16).1; simp; omega)
    have HDD := hid hD
    clear hD
    go_enter Tryz.func65, Tryz.ntmps65
    go_wp2_with fail
    refine (HD1.out _).mono ?_
    rintro e w5 ⟨rfl, hx5⟩
    have HX5 := hid (HE0.out.trans hx5)
    clear hx5
    go_wp2
    go_ret
    refine ⟨?_, HX5.out⟩
    rw [txt_uint]
    have e := HDD.out
    first
     | rw [show ((8 : Int) * 1).toNat = 8 from rfl, e, ← strOf_app]
     | rw [show ((8 : Int) * 2).toNat = 16 from rfl, e, ← strOf_app]
     | rw [show ((8 : Int) * 4).toNat = 32 from rfl, e, ← strOf_app]
    rfl
   ·obtain ⟨D, hD⟩ : ∃ D, decN 32 = D := ⟨_, rfl⟩
    have HD1 := hid (fun w' => decimal_any w' 32 (by omega))
    rw [hD] at HD1
    have hz := sum_ok (a := [117, 105, 110, 116]) (b := D) (by rw [← hD]; have := (decN_len 32).1; simp; omega)
    have HDD := hid hD
    clear hD
    go_enter Tryz.func65, Tryz.ntmps65
    go_wp2_with fail
    refine (HD1.out _).mono ?_
    rintro e w5 ⟨rfl, hx5⟩
    have HX5 := hid (HE0.out.trans hx5)
    clear hx5
    go_wp2
    go_ret
    refine ⟨?_, HX5.out⟩
    rw [txt_uint]
    have e := HDD.out
    first
     | rw [show ((8 : Int) * 1).toNat = 8 from rfl, e, ← strOf_app]
     | rw [show ((8 : Int) * 2).toNat = 16 from rfl, e, ← strOf_app]
     | rw [show ((8 : Int) * 4).toNat = 32 from rfl, e, ← strOf_app]
    rfl
  ·simp only [Ty.kind, Ty.size, Ty.count, Ty.ptr] at *
   have hna : na = 1 := by have := HLA.out; simpa [Ty.elem] using this
   subst hna
   have hnx : nodT x ≤ 1000000 := nod_elem hnod
   obtain ⟨d', b, off, A1, n1, c1, B1, m1, e1, hd, rfl, hv1, c0, c1', c2, c3, c4⟩ := (HE.out.ext HE0.out).ty_at (k := 0) (t := x) rfl
   have HC := hid (fun w' (hw : Ext W0 w') => HIH.out d' (by omega) w' x _ (hv1.ext hw) hx hnx)
   simp only [Nat.zero_mul, Nat.add_zero] at c0 c1' c2 c3 c4
   obtain ⟨X, hX⟩ : ∃ X, txtT x = X := ⟨_, rfl⟩
   have hz := sum_ok (a := [42]) (b := X) (by rw [← hX]; have := txt_len x; simp; omega)
   rw [hX] at HC
   have HXX := hid hX
   clear hd hv1 hX hform hx hnod hnx
   go_enter Tryz.func65, Tryz.ntmps65
   go_wp2_with fail
   refine (HC.out _ (Ext.refl _)).mono ?_
   rintro e w5 ⟨rfl, hx5⟩
   have HX5 := hid (HE0.out.trans hx5)
   clear hx5 c0 c1' c2 c3 c4 o0 o1 o2 o3 o4
   go_wp2
   go_ret
   refine ⟨?_, HX5.out⟩
   rw [txt_ptr, HXX.out, show 42 :: X = [42] ++ X from rfl, ← strOf_app]
   rfl
  ·simp only [Ty.kind, Ty.size, Ty.count, Ty.arr] at *
   have hna : na = 1 := by have := HLA.out; simpa [Ty.elem] using this
   subst hna
   have hnx : nodT x ≤ 1000000 := nod_elem hnod
   obtain ⟨q, rfl⟩ : ∃ q : Nat, m = (q : Int) := ⟨m.toNat, by omega⟩
   obtain ⟨d', b, off, A1, n1, c1, B1, m1, e1, hd, rfl, hv1, c0, c1', c2, c3, c4⟩ := (HE.out.ext HE0.out).ty_at (k := 0) (t := x) rfl
   have HC := hid (fun w' (hw : Ext W0 w') => HIH.out d' (by omega) w' x _ (hv1.ext hw) hx hnx)
   simp only [Nat.zero_mul, Nat.add_zero] at c0 c1' c2 c3 c4
   obtain ⟨X, hX⟩ : ∃ X, txtT x = X := ⟨_, rfl⟩
   obtain ⟨D, hD⟩ : ∃ D, decN q = D := ⟨_, rfl⟩
   have hxl : X.length ≤ 64000000 := by rw [← hX]; have := txt_len x; omega
   have hdl : D.length ≤ 21 := by rw [← hD]; exact (decN_len q).1
   have HDC := hid (fun w' => decimal_any w' q (by omega))
   rw [hD] at HDC
   rw [hX] at HC
   have z1 : ¬ 9223372036854775807 < 1 + (strOf D).size := by rw [strOf_size]; omega
   have z2 : ¬ 9223372036854775807 < (strOf ([91] ++ D)).size + 1 := by rw [strOf_size]; simp; omega
   have z3 : ¬ 9223372036854775807 < (strOf ([91] ++ D ++ [93])).size + (strOf X).size := by rw [strOf_size, strOf_size]; simp; omega
   have e1' : (⟨#[91]⟩ : ByteArray) ++ strOf D = strOf ([91] ++ D) := strOf_app [91] D
   have e2' : strOf ([91] ++ D) ++ (⟨#[93]⟩ : ByteArray) = strOf ([91] ++ D ++ [93]) := strOf_app _ [93]
   have e3' : strOf ([91] ++ D ++ [93]) ++ strOf X = strOf (([91] ++ D ++ [93]) ++ X) := strOf_app _ _
   obtain ⟨C1, hC1⟩ : ∃ C1, [91] ++ D = C1 := ⟨_, rfl⟩
   rw [hC1] at z2 z3 e1' e2' e3'
   obtain ⟨C2, hC2⟩ : ∃ C2, C1 ++ [93] = C2 := ⟨_, rfl⟩
   rw [hC2] at z3 e2' e3'
   obtain ⟨C3, hC3⟩ : ∃ C3, C2 ++ X = C3 := ⟨_, rfl⟩
   rw [hC3] at e3'
   have HR : Hid (txtT (.mk 4 0 (q : Int) [x] []) = C3) := hid (by rw [txt_arr, hX, ← hC3, ← hC2, ← hC1, ← hD]; rfl)
   have hq : (q : Int).toNat = q := Int.toNat_natCast q
   clear hd hv1 hX hD hC1 hC2 hC3 hform hx hnod hnx hxl hdl hq
   go_enter Tryz.func65, Tryz.ntmps65
   go_wp2_with fail
   refine wp_region_held_drew (S := (fun w' => w'.cell? ⟨w.heap.size, 2, none⟩ = some (.int .i64 q) ∧ w'.cell? ⟨w.heap.size, 3, none⟩ = some (.slice (some ⟨b, off, none⟩) 1 ca) ∧ w'.cell? ⟨b, off, none⟩ = some (.int .i64 x.kind) ∧ w'.cell? ⟨b, off + 1, none⟩ = some (.int .i64 x.size) ∧ w'.cell? ⟨b, off + 2, none⟩ = some (.int .i64 x.count) ∧ w'.cell? ⟨b, off + 3, none⟩ = some (.slice A1 n1 c1) ∧ w'.cell? ⟨b, off + 4, none⟩ = some (.slice B1 m1 e1))) (by kernel_rfl) ⟨o2, o3, c0, c1', c2, c3, c4⟩ (fun hSg78q0 => ?_)
   refine rgT6 0 1 5 6 7 8 ?_
   refine rgC 2 (fun K hK => ?_)
   go_simp
   go_at_call 98
   refine (HDC.out _).mono ?_
   rintro e w5 ⟨rfl, hx5⟩
   have HX5 := hid hx5.drew_left
   clear hx5
   refine rgK hK ⟨HX5.out.cell o2, HX5.out.cell o3, HX5.out.cell c0, HX5.out.cell c1', HX5.out.cell c2, HX5.out.cell c3, HX5.out.cell c4⟩ (fun hSg78q1 => ?_)
   clear hK K
   refine rgT2 3 4 ?_
   refine rgC 9 (fun K hK => ?_)
   go_simp
   go_at_call 65
   refine (HC.out _ HX5.out).mono ?_
   rintro e w6 ⟨rfl, hx6⟩
   have HX6 := hid (HX5.out.trans hx6)
   clear hx6
   refine rgK hK ⟨HX6.out.cell o2, HX6.out.cell o3, HX6.out.cell c0, HX6.out.cell c1', HX6.out.cell c2, HX6.out.cell c3, HX6.out.cell c4⟩ (fun hSg78q2 => ?_)
   clear hK K
   refine rgT2 10 11 ?_
   refine wpAnyH_done (by kernel_rfl) ?_ _
   clear o0 o1 o2 o3 o4 c0 c1' c2 c3 c4
   go_wp2
   go_ret
   exact ⟨by rw [HR.out]; rfl, HE0.out.trans HX6.out⟩
  ·simp only [Ty.kind, Ty.size, Ty.count, Ty.str] at *
   have HFL := hid hl
   have hnl : nodF l ≤ 1000000 := by rw [nodT] at hnod; omega
   have HNL := hid hnl
   have HO4 := hid o4
   clear hl hform hnod hnl
   go_enter Tryz.func65, Tryz.ntmps65
   go_wp2
   clear o0 o1 o2 o3 o4
   go_loopw [4, 3] (fun i s3 wr => ∃ (k : Nat) (C : List Nat), k ≤ nb ∧ i = .int .i64 k ∧ s3 = .string (strOf C) ∧ Hid (C = 123 :: txtF true (l.take k)) ∧ Hid (Ext W0 wr)) (fun i _ _ => nb - (intOf i).toNat)
   case atStart => exact ⟨0, [123], by omega, rfl, rfl, hid rfl, hid (Ext.refl _)⟩
   case round =>
    obtain ⟨k, C, hk, rfl, rfl, HC0, HX⟩ := hrel
    have o4 := HX.out.cell HO4.out
    have hcl : C.length ≤ 64000001 := by
     rw [HC0.out]
     have h1 := txtF_len true (l.take k)
     have h2 := nodF_take l k
     have h3 := HNL.out
     simp
     omega
    by_cases h1 : k < nb
    ·obtain ⟨x, hx⟩ : ∃ x, l[k]? = some x := ⟨_, List.getElem?_eq_getElem (by have := HLB.out; simp [Ty.fields] at this; omega)⟩
     obtain ⟨d', b, off, A1, n1, c1, B1, m1, e1, hd, rfl, hv1, -, c0, c1', c2, c3, c4, c5⟩ := (HF.out.ext (HE0.out.trans HX.out)).fd_at hx
     have hxf := formF_all HFL.out x (List.mem_of_getElem? hx)
     have hnx : nodT x.2 ≤ 1000000 := Nat.le_trans (nodF_mem (List.mem_of_getElem? hx)) HNL.out
     have HTC := hid (fun w' (hw : Ext wr w') => HIH.out d' (by omega) w' x.2 _ (hv1.ext hw) hxf.2.2 hnx)
     have hstep := txtF_snoc hx
     obtain ⟨q, hq⟩ : ∃ q : Nat, x.1 = (q : Int) := ⟨x.1.toNat, by omega⟩
     obtain ⟨X, hX⟩ : ∃ X, txtT x.2 = X := ⟨_, rfl⟩
     obtain ⟨D, hD⟩ : ∃ D, decN q = D := ⟨_, rfl⟩
     have hxl : X.length ≤ 64000000 := by rw [← hX]; have := txt_len x.2; omega
     have hdl : D.length ≤ 21 := by rw [← hD]; exact (decN_len q).1
     have HDC := hid (fun w' => decimal_any w' q (by omega))
     rw [hD] at HDC
     rw [hX] at HTC
     rw [hq] at c0
     obtain ⟨C', hC'⟩ : ∃ C', C ++ (if decide (k = 0) then ([] : List Nat) else [44, 32]) = C' := ⟨_, rfl⟩
     have hcl' : C'.length ≤ 64000003 := by rw [← hC']; split <;> simp <;> omega
     have z1 : ¬ 9223372036854775807 < (strOf C').size + (strOf D).size := by rw [strOf_size, strOf_size]; omega
     have z2 : ¬ 9223372036854775807 < (strOf (C' ++ D)).size + 2 := by rw [strOf_size]; simp; omega
     have z3 : ¬ 9223372036854775807 < (strOf (C' ++ D ++ [58, 32])).size + (strOf X).size := by rw [strOf_size, strOf_size]; simp; omega
     have e1' : strOf C' ++ strOf D = strOf (C' ++ D) := strOf_app _ _
     have e2' : strOf (C' ++ D) ++ (⟨#[58, 32]⟩ : ByteArray) = strOf (C' ++ D ++ [58, 32]) := strOf_app _ [58, 32]
     have e3' : strOf (C' ++ D ++ [58, 32]) ++ strOf X = strOf ((C' ++ D ++ [58, 32]) ++ X) := strOf_app _ _
     obtain ⟨C1, hC1⟩ : ∃ C1, C' ++ D = C1 := ⟨_, rfl⟩
     rw [hC1] at z2 z3 e1' e2' e3'
     obtain ⟨C2, hC2⟩ : ∃ C2, C1 ++ [58, 32] = C2 := ⟨_, rfl⟩
     rw [hC2] at z3 e2' e3'
     obtain ⟨C3, hC3⟩ : ∃ C3, C2 ++ X = C3 := ⟨_, rfl⟩
     rw [hC3] at e3'
     have HR : Hid (C3 = 123 :: txtF true (l.take (k + 1))) := hid (by
      rw [hstep, ← hC3, ← hC2, ← hC1, ← hC', HC0.out, txt1, hX, hq, ← hD]
      by_cases h0 : k = 0 <;> simp [h0])
     have HCC := hid hC'
     have hkn : (k : Int) < (nb : Int) := by omega
     have HCL := hid hcl
     clear hd hv1 hX hD hC1 hC2 hC3 hxf hx hnx hxl hdl hq hstep hcl' hC' hcl
     go_upto_if 54 with fail
     go_cut [3] from 46 to 74 (fun s3 wx => s3 = .string (strOf C') ∧ wr = wx)
     case first =>
      by_cases h0 : k = 0
      ·have g0 : decide ((k : Int) > 0) = false := decide_eq_false (by omega)
       have g1 : ¬ (k : Int) > 0 := by omega
       have g2 : ¬ 0 < k := by omega
       have hcc : C = C' := by rw [← HCC.out, h0]; simp
       clear h0
       go_wp2
       go_meet
       exact ⟨by first | rfl | rw [hcc], rfl⟩
      ·have g0 : decide ((k : Int) > 0) = true := decide_eq_true (by omega)
       have g1 : (k : Int) > 0 := by omega
       have g2 : 0 < k := by omega
       have hcc : C ++ [44, 32] = C' := by rw [← HCC.out]; simp [h0]
       have z0 : ¬ 9223372036854775807 < (strOf C).size + 2 := by rw [strOf_size]; have := HCL.out; omega
       have e0 : strOf C ++ (⟨#[44, 32]⟩ : ByteArray) = strOf C' := by rw [← hcc]; exact strOf_app _ [44, 32]
       clear h0 hcc
       go_wp2
       go_meet
       exact ⟨rfl, rfl⟩
     case rest =>
      obtain ⟨rfl, hwc⟩ := hcut
      subst hwc
      go_wp2_with fail
      refine wp_region_held_drew (S := (fun w' => w'.cell? ⟨w.heap.size, 4, none⟩ = some (.slice (some ⟨b, off, none⟩) nb cb) ∧ w'.cell? ⟨b, off + k * 6, none⟩ = some (.int .i64 q) ∧ w'.cell? ⟨b, off + k * 6 + 1, none⟩ = some (.int .i64 x.2.kind) ∧ w'.cell? ⟨b, off + k * 6 + 2, none⟩ = some (.int .i64 x.2.size) ∧ w'.cell? ⟨b, off + k * 6 + 3, none⟩ = some (.int .i64 x.2.count) ∧ w'.cell? ⟨b, off + k * 6 + 4, none⟩ = some (.slice A1 n1 c1) ∧ w'.cell? ⟨b, off + k * 6 + 5, none⟩ = some (.slice B1 m1 e1))) (by kernel_rfl) ⟨o4, c0, c1', c2, c3, c4, c5⟩ (fun hSg79q0 => ?_)
      refine rgT6 0 1 2 3 4 5 ?_
      refine rgT6 6 10 11 12 13 14 ?_
      refine rgT 15 ?_
      refine rgC 7 (fun K hK => ?_)
      go_simp
      go_at_call 98
      refine (HDC.out _).mono ?_
      rintro e w5 ⟨rfl, hx5⟩
      have HX5 := hid hx5.drew_left
      clear hx5
      refine rgK hK ⟨HX5.out.cell o4, HX5.out.cell c0, HX5.out.cell c1', HX5.out.cell c2, HX5.out.cell c3, HX5.out.cell c4, HX5.out.cell c5⟩ (fun hSg79q1 => ?_)
      clear hK K
      refine rgT2 8 9 ?_
      refine rgC 16 (fun K hK => ?_)
      go_simp
      go_at_call 65
      refine (HTC.out _ HX5.out).mono ?_
      rintro e w6 ⟨rfl, hx6⟩
      have HX6 := hid (HX5.out.trans hx6)
      clear hx6
      refine rgK hK ⟨HX6.out.cell o4, HX6.out.cell c0, HX6.out.cell c1', HX6.out.cell c2, HX6.out.cell c3, HX6.out.cell c4, HX6.out.cell c5⟩ (fun hSg79q2 => ?_)
      clear hK K
      refine rgT2 17 18 ?_
      refine wpAnyH_done (by kernel_rfl) ?_ _
      clear o4 c0 c1' c2 c3 c4 c5
      go_wp2
      first
       | go_roundw
       | refine ⟨?rel, ?measure⟩
      case rel => exact ⟨k + 1, C3, by omega, by go_num, rfl, HR, hid (HX.out.trans HX6.out)⟩
      case measure => simp [intOf]; omega
    ·have hkn : ¬ (k : Int) < (nb : Int) := by omega
     obtain rfl : k = nb := by omega
     have z0 : ¬ 9223372036854775807 < (strOf C).size + 1 := by rw [strOf_size]; omega
     have e0 : strOf C ++ (⟨#[125]⟩ : ByteArray) = strOf (C ++ [125]) := strOf_app _ [125]
     have HR : Hid (txtT (.mk 5 0 0 [] l) = C ++ [125]) := hid (by rw [txt_str, HC0.out, List.take_of_length_le (by have := HLB.out; simp [Ty.fields] at this; omega)])
     obtain ⟨C3, hC3⟩ : ∃ C3, C ++ [125] = C3 := ⟨_, rfl⟩
     rw [hC3] at e0 HR
     clear hC3 hcl
     go_wp2
     go_ret
     exact ⟨by rw [HR.out]; rfl, HE0.out.trans HX.out⟩
end Go.Proofs.YtacmjhcfjhpkeaaGreatDoor

namespace Go.Proofs.YtacmjhcfjhpkeaaGreatDoor
open Go.RowKit Go.Deco
set_option linter.unusedSimpArgs false
set_option linter.unusedVariables false

theorem printT_good {t : Ty} (h : chkT t = 0) : printT t = txtT t := by rw [printT, if_pos (goodT_iff.2 (chkT_zero.1 h))]
theorem printT_bad {t : Ty} (h : chkT t ≠ 0) : printT t = [] := by rw [printT, if_neg (fun e => h (chkT_zero.2 (goodT_iff.1 e)))]
set_option maxRecDepth 100000 in
set_option maxHeartbeats 4000000 in
theorem print31_any (d : Nat) (w : World) (t : Ty) (v : Value) (hv : TyV d w All v t) (hn : nodT t ≤ 1000000) : Calls Tryz.prog 33 #[v] w (StrIs w (printT t)) := by
 have HV := hid hv
 obtain ⟨A, na, ca, B, nb, cb, rfl, -⟩ := hv
 obtain ⟨W0, hW0⟩ : ∃ W0, w.alloc (.cells #[.int .i64 t.kind, .int .i64 t.size, .int .i64 t.count, .slice A na ca, .slice B nb cb] 25) = W0 := ⟨_, rfl⟩
 have hE0 : Ext w W0 := by rw [← hW0]; exact (Ext.refl w).alloc _
 have o0 : W0.cell? ⟨w.heap.size, 0, none⟩ = some (.int .i64 t.kind) := by rw [← hW0]; simp [go_sem]
 have o1 : W0.cell? ⟨w.heap.size, 1, none⟩ = some (.int .i64 t.size) := by rw [← hW0]; simp [go_sem]
 have o2 : W0.cell? ⟨w.heap.size, 2, none⟩ = some (.int .i64 t.count) := by rw [← hW0]; simp [go_sem]
 have o3 : W0.cell? ⟨w.heap.size, 3, none⟩ = some (.slice A na ca) := by rw [← hW0]; simp [go_sem]
 have o4 : W0.cell? ⟨w.heap.size, 4, none⟩ = some (.slice B nb cb) := by rw [← hW0]; simp [go_sem]
 have HE0 := hid hE0
 clear hE0
 have HC := hid (check31_any d W0 t _ (HV.out.ext HE0.out))
 obtain ⟨z, hz⟩ : ∃ z, chkT t = z := ⟨_, rfl⟩
 rw [hz] at HC
 have HZ := hid hz
 obtain ⟨R, hR⟩ : ∃ R, printT t = R := ⟨_, rfl⟩
 rw [hR]
 have HR := hid hR
 have HN := hid hn
 clear hz hR hn
 go_enter Tryz.func33, Tryz.ntmps33
 go_wp2_with fail
 refine (HC.out).mono ?_
 rintro e w1 ⟨rfl, hx1⟩
 have HX1 := hid (HE0.out.trans hx1)
 have o0 := hx1.cell o0
 have o1 := hx1.cell o1
 have o2 := hx1.cell o2
 have o3 := hx1.cell o3
 have o4 := hx1.cell o4
 clear hx1 hW0
 by_cases h0 : z = 0
 ·subst h0
  have HS := hid (text_any d w1 t _ (HV.out.ext HX1.out) (chkT_zero.1 HZ.out).2.1 HN.out)
  rw [← printT_good HZ.out, HR.out] at HS
  go_wp2_with fail
  refine (HS.out).mono ?_
  rintro e w2 ⟨rfl, hx2⟩
  have HX2 := hid (HX1.out.trans hx2)
  clear hx2 o0 o1 o2 o3 o4
  go_wp2
  go_ret
  exact ⟨rfl, HX2.out⟩
 ·have n0 : ((z : Int) != 0) = true := by simp; omega
  obtain rfl : R = [] := by rw [← HR.out, printT_bad (by rw [HZ.out]; exact h0)]
  clear h0
  go_wp2
  go_ret
  exact ⟨rfl, HX1.out⟩

theorem fnv_take {L : List Nat} {k x : Nat} (h : L[k]? = some x) : fnvL (L.take (k + 1)) = fnvS (fnvL (L.take k)) x := by
 unfold fnvL
 rw [take_snoc' h, List.foldl_append, List.foldl_cons, List.foldl_nil]
end Go.Proofs.YtacmjhcfjhpkeaaGreatDoor
