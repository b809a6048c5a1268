/- slices.Grow and slices.Concat at []api.Field: turned from FbA. structs: Layout. -/
import Derived.Test.YtacmjhcfjhpkeaaGreatDoorTydm
import Derived.Test.YtacmjhcfjhpkeaaGreatDoorPlbm
import Derived.Laws.AppendOwn
import Derived.Laws.Slices
import Derived.Test.YtacmjhcfjhpkeaaGreatDoorStdm
namespace Go.Proofs.YtacmjhcfjhpkeaaGreatDoor
open Go Go.RowKit Go.Deco
set_option linter.unusedSimpArgs false
set_option linter.unusedVariables false

set_option maxRecDepth 100000 in
theorem run_append_zeros' {P : Program} (w : World) (t u ty e : TypeId) (i : TypeInfo) (z : Value) (ht : P.underlying t = some (.slice e)) (hu : P.underlying u = some (.int .i64)) (hi : P.info? e = some i) (hz : i.zero = some z)
  (n : Nat) (m : Int) (hm : m.toNat = n) (hs : n * i.size ≠ 0) (hn : n ≠ 0) (hw : IntKind.i64.wrap m = m) (hneg : ¬ m < 0) (hle : ¬ m ≤ 0) (hmx : max m 0 = m) (h63 : ¬ (9223372036854775807 < m)) (hb : ¬ (281474976710656 < m * (i.bytes : Int))) (h48 : ¬ (281474976710656 < Builtin.nextslicecap n 0 * i.bytes)) :
  (Builtin.append_ #[t, u] ty #[.slice none 0 0, .int .i64 m]).run P w =
   .ok (.slice (some ⟨w.heap.size, 0, none⟩) n (grownCap w n 0 e)) (w.drew.alloc (.cells (Builtin.zeroCells z.cells n ++ Builtin.zeroCells z.cells (grownCap w n 0 e - n)) e)) := by
 simp [Builtin.append_, run_underlying ht, run_underlying hu, sizeOf, typeInfo, zeroValue, hi, hz, asInt, asIntOf, hw, hneg, hle, hmx, hb, hn, hs, hm, h63, h48, Question.forced, run_firstCells_none, newRow, grownCap]
theorem run_append_zeros {P : Program} (w : World) (t u ty e : TypeId) (i : TypeInfo) (z : Value) (ht : P.underlying t = some (.slice e)) (hu : P.underlying u = some (.int .i64)) (hi : P.info? e = some i) (hz : i.zero = some z)
  (n : Nat) (hs : n * i.size ≠ 0) (h0 : 0 < n) (h63 : (n : Int) ≤ 9223372036854775807) (h48 : n * i.bytes ≤ 281474976710656) :
  (Builtin.append_ #[t, u] ty #[.slice none 0 0, .int .i64 n]).run P w =
   .ok (.slice (some ⟨w.heap.size, 0, none⟩) n (grownCap w n 0 e)) (w.drew.alloc (.cells (Builtin.zeroCells z.cells n ++ Builtin.zeroCells z.cells (grownCap w n 0 e - n)) e)) := by
 have hb : ((n * i.bytes : Nat) : Int) ≤ 281474976710656 := by omega
 rw [Int.natCast_mul] at hb
 exact run_append_zeros' w t u ty e i z ht hu hi hz n n (by omega) hs (by omega) (IntWalk.i64_in _ (by omega)) (by omega) (by omega) (by omega) (by omega) (by omega) (by rw [nextslicecap_zero h0]; omega)
theorem wpList_zeros {P : Program} {ops : Array Oper} {rest : List Oper} {o : Oper} {a : Act} {Q : Exit → Act → World → Prop} {W : World} (hgd : o.guard = none) (s x : Operand) (t u : TypeId)
  (ho : o.op = .call { callee := .builtin .append, args := #[s, x], argTypes := #[t, u] }) (e : TypeId) (i : TypeInfo) (z : Value) (ht : P.underlying t = some (.slice e)) (hu : P.underlying u = some (.int .i64)) (hi : P.info? e = some i) (hz : i.zero = some z)
  (n : Nat) (hs : a.eval s = .slice none 0 0) (hx : a.eval x = .int .i64 n) (hsz : n * i.size ≠ 0) (h0 : 0 < n) (h63 : (n : Int) ≤ 9223372036854775807) (h48 : n * i.bytes ≤ 281474976710656)
  (h : wpList P ops Q rest (a.put o.dst (.slice (some ⟨W.heap.size, 0, none⟩) n (grownCap W n 0 e))) (W.drew.alloc (.cells (Builtin.zeroCells z.cells n ++ Builtin.zeroCells z.cells (grownCap W n 0 e - n)) e))) :
  wpList P ops Q (o :: rest) a W :=
 wpList_plain hgd fun _ hK => by
  have hrun := run_append_zeros (P := P) W t u o.type e i z ht hu hi hz n hsz h0 h63 h48
  unfold Oper.wp execOp
  simp only [ho, resolve, invoke, builtin, Sem.run_bind, Sem.run_pure, Result.andThen_ok, List.map_toArray, List.map_cons, List.map_nil, hs, hx, hrun]
  exact hK _ _ h
theorem sl_zero (A : Option Addr) (n c : Nat) (hn : n ≤ c) (hA : A = none ∧ c = 0 ∨ ∃ g, A = some ⟨g, 0, none⟩ ∧ 0 < c) (w : World) : (Instr.sliceAt 23 (.slice A n c) none (some (.int .i64 0)) none).run Tryz.prog w = .ok (.slice A 0 c) w := by
 have hel : Tryz.prog.elem 23 = 48 := by kernel_rfl
 have ht' : Tryz.prog.underlying 23 = some (.slice (Tryz.prog.elem 23)) := by rw [hel]; exact Tryz.underlying23
 have hs : (sizeOf (Tryz.prog.elem 23)).run Tryz.prog w = .ok 6 w := by kernel_rfl
 rw [run_sliceAt_slice (h := ht'), run_slice_h (ht := ht') (h0 := by omega) (h2 := by omega), hs]
 rcases hA with ⟨rfl, rfl⟩ | ⟨g, rfl, hc⟩
 ·simp [sliced]
 ·simp [sliced, Addr.add]
set_option maxRecDepth 100000 in
set_option maxHeartbeats 1000000 in
theorem growfd_any (d : Nat) (T : Nat → Prop) (w : World) (n : Nat) (hn : n ≤ 1000000) : Calls Tryz.prog 95 #[.slice none 0 0, .int .i64 n] w fun e w' => Ext w w' ∧ ∃ A c, e = .returned (.slice A 0 c) ∧ OwnS (fdR (tyR d)) w' w.heap.size 48 T (.slice A 0 c) [] := by
 obtain ⟨k0, hkf, hk0, hk1, hk2⟩ := info_parts info_fd
 have HKF := hid hkf
 have HK0 := hid hk0
 have HK1 := hid hk1
 have HK2 := hid hk2
 clear hkf hk0 hk1 hk2
 by_cases h0 : n = 0
 ·subst h0
  go_enter Tryz.func95, Tryz.ntmps95
  go_wp2
  go_ret
  exact ⟨Ext.refl w, none, 0, rfl, OwnS.nil⟩
 ·have hz1 := sl_zero none 0 0 (by omega) (.inl ⟨rfl, rfl⟩)
  have hn0 : decide ((n : Int) < 0) = false := decide_eq_false (by omega)
  have hn1 : decide ((n : Int) > 0) = true := decide_eq_true (by omega)
  have hn2 : decide (0 < (n : Int)) = true := decide_eq_true (by omega)
  have hn3 : decide (0 < n) = true := decide_eq_true (by omega)
  have hwr : IntKind.i64.wrap (n : Int) = n := IntWalk.i64_in _ (by omega)
  have H0 := hid h0
  have HN := hid hn
  clear h0 hn
  go_enter Tryz.func95, Tryz.ntmps95
  go_wp2_with (first
   | (at_builtin; refine wpList_zeros rfl (.tmp 20) (.tmp 21) 23 3 rfl 48 k0 (.agg #[.int .i64 0, .int .i64 0, .int .i64 0, .int .i64 0, .slice none 0 0, .slice none 0 0]) Tryz.underlying23 Tryz.underlying3 HKF.out HK0.out n rfl rfl (by rw [HK1.out]; have := H0.out; omega) (by have := H0.out; omega) (by have := HN.out; omega) (by rw [HK2.out]; have := HN.out; omega) ?_)
   | fail)
  go_ret
  have hc1 := grownCap_ge w n 0 48
  have hc2 := grownCap_le_maxLen w n 0 48 (by have := HN.out; unfold maxLen; omega)
  refine ⟨((Ext.refl w).alloc _).drew, _, _, rfl, OwnS.dr ⟨[], World.ownsRow_made w _ _ (Nat.le_refl _) hc2 ?_, rfl⟩⟩
  rw [Array.size_append, size_zeroCells, size_zeroCells, fdR_size]
  show n * 6 + (grownCap w n 0 48 - n) * 6 = _
  omega

/-- A row of the call's own whose parts are data. -/
def RowFd (d : Nat) (T : Nat → Prop) (wo : World) (l : List (Int × Ty)) (e : Ending) (w' : World) : Prop := Ext wo w' ∧ ∃ A c, e = .returned (.slice A l.length c) ∧ OwnS (fdR (tyR d)) w' wo.heap.size 48 T (.slice A l.length c) l
theorem row_atfd {d : Nat} {w : World} {S : Nat → Prop} {A : Option Addr} {n c k : Nat} {l : List (List (Int × Ty))} {x : List (Int × Ty)} (h : Sl (slR (fdR (tyR d))) w S (.slice A n c) l) (hk : l[k]? = some x) :
  ∃ b off A' c', A = some ⟨b, off, none⟩ ∧ w.cell? ⟨b, off + k, none⟩ = some (.slice A' x.length c') ∧ Sl (fdR (tyR d)) w S (.slice A' x.length c') x := by
 obtain ⟨b, off, cs, hA, ⟨v, hcs, hv⟩, hc⟩ := h.get hk
 obtain ⟨A', c', rfl, _⟩ := hv.form
 subst hcs
 exact ⟨b, off, A', c', hA, by simpa [slR] using hc 0 _ rfl, hv⟩
theorem flat_step {l : List (List (Int × Ty))} {k : Nat} {x : List (Int × Ty)} (h : l[k]? = some x) : (l.take (k + 1)).flatten = (l.take k).flatten ++ x := by rw [take_snoc' h, List.flatten_append]; simp
theorem flat_le (l : List (List (Int × Ty))) (k : Nat) : (l.take k).flatten.length ≤ l.flatten.length := by
 have h : l.flatten = (l.take k).flatten ++ (l.drop k).flatten := by rw [← List.flatten_append, List.take_append_drop]
 rw [h, List.length_append]
 omega

set_option maxRecDepth 100000 in
set_option maxHeartbeats 2000000 in
theorem concatfd_any (d : Nat) (U : Nat → Prop) (w : World) (T : Option Addr) (nt ct : Nat) (l : List (List (Int × Ty))) (ht : Sl (slR (fdR (tyR d))) w U (.slice T nt ct) l) (hl : l.flatten.length ≤ 100000) :
  Calls Tryz.prog 58 #[.slice T nt ct] w (RowFd d U w l.flatten) := by
 obtain ⟨k0, hkf, hk0, hk1, hk2⟩ := info_parts info_fd
 have HKF := hid hkf
 have HK0 := hid hk0
 have HK1 := hid hk1
 have HK2 := hid hk2
 have HLN := hid ht.len
 have HS := hid ht
 have hcap := ht.cap
 have HB := hid hl
 clear hkf hk0 hk1 hk2 ht hl
 go_enter Tryz.func58, Tryz.ntmps58
 go_wp2
 go_loopw [3, 11] (fun s3 s11 wr => ∃ k m : Nat, k ≤ nt ∧ s11 = .int .i64 k ∧ s3 = .int .i64 m ∧ Hid (m = ((l.take k).flatten).length) ∧ Hid (w = wr)) (fun _ s11 _ => nt - (intOf s11).toNat)
 case atStart => exact ⟨0, 0, by omega, rfl, rfl, hid (by first | rfl | simp), hid (by first | rfl | trivial)⟩
 case round =>
  obtain ⟨k, m, hk, rfl, rfl, HM, HW⟩ := hrel
  have hw := HW.out
  subst hw
  by_cases hkn : k < nt
  ·obtain ⟨x, hx⟩ : ∃ x, l[k]? = some x := ⟨_, List.getElem?_eq_getElem (by have := HLN.out; omega)⟩
   obtain ⟨b, off, A', c', rfl, e1, -⟩ := row_atfd HS.out hx
   obtain ⟨L, hL⟩ : ∃ L, x.length = L := ⟨_, rfl⟩
   rw [hL] at e1
   have hst : m + L = ((l.take (k + 1)).flatten).length := by rw [flat_step hx, List.length_append, ← HM.out, hL]
   have hle := flat_le l (k + 1)
   have hb := HB.out
   have hsum : m + L ≤ 100000 := by omega
   have hwr : IntKind.i64.wrap ((m : Int) + (L : Int)) = ((m + L : Nat) : Int) := by rw [IntWalk.i64_in _ (by omega)]; omega
   obtain ⟨S, hS⟩ : ∃ S, m + L = S := ⟨_, rfl⟩
   rw [hS] at hwr hst hsum
   have hS0 : decide ((S : Int) < 0) = false := decide_eq_false (by omega)
   have HST := hid hst
   clear hx hL hst hle hb hS HM
   go_wp2
   first
    | go_roundw
    | refine ⟨?rel, ?measure⟩
   case rel => exact ⟨k + 1, S, by omega, by go_num, rfl, HST, hid (by first | rfl | trivial)⟩
   case measure => simp [intOf]; omega
  ·obtain rfl : k = nt := by omega
   have hme : m = l.flatten.length := by rw [HM.out, List.take_of_length_le (by have := HLN.out; omega)]
   have HG := hid (growfd_any d U w m (by have := HB.out; omega))
   have HME := hid hme
   clear hme HM
   go_wp2_with fail
   refine (HG.out).mono ?_
   rintro e w1 ⟨hx1, A1, c1, rfl, ho1⟩
   have HX1 := hid hx1
   have HO1 := hid ho1
   have HS1 : Hid (Sl (slR (fdR (tyR d))) w (fun b => U b ∧ b < w.heap.size) (.slice T k ct) l) := hid (HS.out.mono (fun b hb h => ⟨hb, h.lt⟩))
   clear hx1 ho1
   go_wp2
   go_loopw [6, 27] (fun s6 s27 wr => ∃ (k2 : Nat) (A : Option Addr) (c : Nat), k2 ≤ k ∧ s27 = .int .i64 k2 ∧ s6 = .slice A ((l.take k2).flatten).length c ∧ Hid (Ext w wr) ∧ Hid (OwnS (fdR (tyR d)) wr w.heap.size 48 U (.slice A ((l.take k2).flatten).length c) ((l.take k2).flatten))) (fun _ s27 _ => k - (intOf s27).toNat)
   case atStart => exact ⟨0, A1, c1, by omega, rfl, by simp, HX1, hid (by simpa using HO1.out)⟩
   case round =>
    obtain ⟨k2, A, c, hk2, rfl, rfl, HXb, HO⟩ := hrel
    by_cases hkn2 : k2 < k
    ·obtain ⟨x, hx⟩ : ∃ x, l[k2]? = some x := ⟨_, List.getElem?_eq_getElem (by have := HLN.out; omega)⟩
     obtain ⟨b, off, A', c', rfl, e1, s1⟩ := row_atfd (HS1.out.ext HXb.out) hx
     obtain ⟨L, hL⟩ : ∃ L, x.length = L := ⟨_, rfl⟩
     rw [hL] at e1 s1
     have HS2 := hid s1
     have HFL := hid (flat_step hx)
     obtain ⟨F, hF⟩ : ∃ F, (l.take k2).flatten = F := ⟨_, rfl⟩
     rw [hF] at HFL HO ⊢
     obtain ⟨M, hM⟩ : ∃ M, F.length = M := ⟨_, rfl⟩
     rw [hM] at HO ⊢
     have hle := flat_le l (k2 + 1)
     rw [HFL.out, List.length_append, hM, hL] at hle
     have hb := HB.out
     have hsum : M + L ≤ 100000 := by omega
     have HM := hid hM
     have HL := hid hL
     clear hx s1 hL hF hM hle hb
     obtain ⟨V, hV⟩ : ∃ V, V = wr := ⟨_, rfl⟩
     subst hV
     go_wp2_with (first
      | (at_builtin; refine wpList_appS rfl (.tmp 31) (.tmp 32) 23 rfl w.heap.size 48 k0 _ 6 80 Tryz.underlying23 HKF.out HK0.out HK1.out HK2.out rfl (fdR (tyR d)) (fdR_size d) (.slice A M c) F rfl HO.out A' L c' x (fun b => U b ∧ b < w.heap.size) rfl HS2.out (fun d hd _ => ⟨hd.1, fun e => by have := (HO.out.block _ e.symm).1; have := hd.2; omega⟩) (by rw [HM.out]; omega) (by rw [HM.out]; omega) HXb.out.size ?_; intro A8 c8 w8 hown8 hg8 _; have HO8 := hid hown8; have HX8 := hid (HXb.out.grown hg8 (fun b hb => (HO.out.block _ hb).1)); clear hown8 hg8)
      | fail)
     first
      | go_roundw
      | refine ⟨?rel, ?measure⟩
     case rel =>
      rw [HM.out] at HO8
      refine ⟨k2 + 1, A8, c8, by omega, by go_num, ?_, HX8, ?_⟩
      ·rw [HFL.out, List.length_append, HM.out, HL.out]
      ·rw [HFL.out, List.length_append, HM.out, HL.out]
       exact HO8
     case measure => simp [intOf]; omega
    ·obtain rfl : k2 = k := by omega
     have hfl : (l.take k2).flatten = l.flatten := by rw [List.take_of_length_le (by have := HLN.out; omega)]
     have HF := hid hfl
     obtain ⟨F, hF⟩ : ∃ F, (l.take k2).flatten = F := ⟨_, rfl⟩
     rw [hF] at HO HF ⊢
     clear hfl hF
     go_wp2
     go_ret
     rw [← HF.out]
     exact ⟨HXb.out, A, c, rfl, HO.out⟩
end Go.Proofs.YtacmjhcfjhpkeaaGreatDoor

namespace Go.Proofs.YtacmjhcfjhpkeaaGreatDoor
open Go.RowKit Go.Deco
set_option linter.unusedSimpArgs false
set_option linter.unusedVariables false

set_option maxRecDepth 100000 in
set_option maxHeartbeats 8000000 in
theorem layout_any (w : World) (A : Option Addr) (n c : Nat) (l : List Acc) (hl : Sl accR w All (.slice A n c) l) :
  Calls Tryz.prog 17 #[.slice A n c] w (TyErr 4 (fun _ => False) w (layoutA l)) := by
 have hln := hl.len
 obtain ⟨hnc, hcm⟩ := hl.cap
 obtain ⟨R, hR⟩ : ∃ R, layoutA l = R := ⟨_, rfl⟩
 have hRR := hR
 unfold layoutA at hRR
 obtain ⟨hb, hhb⟩ : ∃ hb, ((l.head?.map Acc.base).getD 0) = hb := ⟨_, rfl⟩
 rw [hhb] at hRR
 obtain ⟨P, hP⟩ : ∃ P : Acc → Bool, (fun a => validA a && decide (a.base = hb)) = P := ⟨_, rfl⟩
 rw [hP] at hRR
 rw [hR]
 have HRR := hid hRR
 have HHB := hid hhb
 have HP := hid (fun a => congrFun hP.symm a)
 have HLN := hid hln
 obtain ⟨W0, hW0⟩ : ∃ W0, w.alloc (.cells #[.int .i64 0, .int .i64 0, .int .i64 0, .slice none 0 0, .slice none 0 0] 25) = W0 := ⟨_, rfl⟩
 have hE0 : Ext w W0 := by rw [← hW0]; exact (Ext.refl w).alloc _
 have HB0 : Hid (Box5 W0 w.heap.size (.int .i64 0) (.int .i64 0) (.int .i64 0) (.slice none 0 0) (.slice none 0 0)) := hid (by rw [← hW0]; exact Box5.new w _ _ _ _ _ _)
 have HE0 := hid hE0
 have HL := hid (hl.ext hE0)
 obtain ⟨i0, hi0, hz0, hz1, hz2⟩ := info_parts info_fd
 have HI := hid hi0
 have HI0 := hid hz0
 have HI1 := hid hz1
 have HI2 := hid hz2
 clear hi0 hz0 hz1 hz2 hln hl hR hRR hhb hP hE0
 unfold TyErr
 by_cases h64 : 1024 < n
 ·have d1 : decide ((n : Int) > 1024) = true := decide_eq_true (by omega)
  have HRV : Hid (R = (Ty.unk, 6)) := hid (by rw [← HRR.out, if_pos (by have := HLN.out; omega)])
  have r0 := HB0.out.1
  have r1 := HB0.out.2.1
  have r2 := HB0.out.2.2.1
  have r3 := HB0.out.2.2.2.1
  have r4 := HB0.out.2.2.2.2.1
  have f0 := HB0.out.2.2.2.2.2 0
  have f1 := HB0.out.2.2.2.2.2 1
  have f2 := HB0.out.2.2.2.2.2 2
  have f3 := HB0.out.2.2.2.2.2 3
  have f4 := HB0.out.2.2.2.2.2 4
  have hc := set5_cells r0 r1 r2 r3 r4 (.int .i64 0) (.int .i64 0) (.int .i64 0) (.slice none 0 0) (.slice none 0 0)
  have hx := set5_ext HE0.out (Nat.le_refl _) (.int .i64 0) (.int .i64 0) (.int .i64 0) (.slice none 0 0) (.slice none 0 0)
  obtain ⟨W6, hW6⟩ : ∃ W6, ((((W0.setCell ⟨w.heap.size, 0, none⟩ (.int .i64 0)).setCell ⟨w.heap.size, 1, none⟩ (.int .i64 0)).setCell ⟨w.heap.size, 2, none⟩ (.int .i64 0)).setCell ⟨w.heap.size, 3, none⟩ (.slice none 0 0)).setCell ⟨w.heap.size, 4, none⟩ (.slice none 0 0) = W6 := ⟨_, rfl⟩
  rw [hW6] at hc hx
  obtain ⟨t0, t1, t2, t3, t4⟩ := hc
  have HX6 := hid hx
  have HW6 := hid hW6
  clear hx hW6
  go_enter Tryz.func17, Tryz.ntmps17
  go_wp2
  rw [HW6.out]
  clear r0 r1 r2 r3 r4
  refine bodyPost_ret (v := .tuple #[.agg #[.int .i64 0, .int .i64 0, .int .i64 0, .slice none 0 0, .slice none 0 0], .int .i64 6]) (by simp [results, Tryz.results17, go_sem, t0, t1, t2, t3, t4]) rfl ?_
  refine ⟨_, by rw [HRV.out]; rfl, ?_, HX6.out⟩
  rw [HRV.out]
  exact tyV_leaf _ _ _ 0 0 (by unfold i64b; omega) (by unfold i64b; omega)
 ·have d1 : decide ((n : Int) > 1024) = false := decide_eq_false (by omega)
  have hn : n ≤ 1024 := by omega
  clear h64
  go_enter Tryz.func17, Tryz.ntmps17
  go_wp2
  go_loopw [13, 4] (fun i s4 wr => ∃ (k : Nat) (A2 : Option Addr) (c2 : Nat), k ≤ n ∧ i = .int .i64 k ∧ s4 = .slice A2 k c2 ∧ Hid ((l.take k).all P = true) ∧ Hid (OwnS (fdR (tyR 1)) wr W0.heap.size 48 (fun b => w.heap.size < b) (.slice A2 k c2) ((l.take k).map partA)) ∧ Hid (Ext W0 wr)) (fun i _ _ => n - (intOf i).toNat)
  case atStart => exact ⟨0, none, 0, by omega, rfl, rfl, hid (by simp), hid (by simpa using OwnS.nil), hid (Ext.refl _)⟩
  case round =>
   obtain ⟨k, A2, c2, hk, rfl, rfl, HAL, HO, HX⟩ := hrel
   by_cases h1 : k < n
   ·obtain ⟨x, hx⟩ : ∃ x, l[k]? = some x := ⟨_, List.getElem?_eq_getElem (by have := HLN.out; omega)⟩
    obtain ⟨y, hy⟩ : ∃ y, l[0]? = some y := ⟨_, List.getElem?_eq_getElem (by have := HLN.out; omega)⟩
    have hyh : hb = y.base := by
     rw [← HHB.out]
     cases l with
     | nil => cases hy
     | cons a l =>
      have e : a = y := by simpa using hy
      rw [← e]; rfl
    obtain ⟨b, off, rfl, x0, x1, x2, x3, hi0, hi1, hi2⟩ := (HL.out.ext HX.out).acc_at hx
    obtain ⟨b', off', hbo, y0, -, -, -, -, -, -⟩ := (HL.out.ext HX.out).acc_at hy
    obtain ⟨rfl, rfl⟩ : b = b' ∧ off = off' := by simpa using hbo
    rw [Nat.zero_mul, Nat.add_zero] at y0
    rw [← hyh] at y0
    have hPx := HP.out x
    obtain ⟨z, hz⟩ : ∃ z, validA x = z := ⟨_, rfl⟩
    rw [hz] at hPx
    have HVC := hid (fun (w' : World) => valid_any w' x)
    rw [hz] at HVC
    have HPC := hid (fun (w' : World) => part_any w' x)
    have HFR := hid (fun (w' : World) (S : Nat → Prop) => fd_rel.2 (part_fdV 0 w' S x hi1 hi2))
    unfold partV at HFR HPC
    have HXX := hid hx
    have HPX := hid hPx
    have hmem := List.mem_of_getElem? hx
    have HMEM := hid hmem
    obtain ⟨kd, hkd⟩ : ∃ kd, kindA x = kd := ⟨_, rfl⟩
    rw [hkd] at HFR HPC
    unfold accV at HVC HPC
    obtain ⟨xb, xo, xw, xs⟩ := x
    simp only at x0 x1 x2 x3 HPX HVC HPC HFR
    obtain ⟨W2, hW2⟩ : ∃ W2, wr.alloc (.cells #[.int .i64 xb, .int .i64 xo, .int .i64 xw, .bool xs] 59) = W2 := ⟨_, rfl⟩
    have hE2 : Ext wr W2 := by rw [← hW2]; exact (Ext.refl _).alloc _
    have q0 : W2.cell? ⟨wr.heap.size, 0, none⟩ = some (.int .i64 xb) := by rw [← hW2]; simp [go_sem]
    have q1 : W2.cell? ⟨wr.heap.size, 1, none⟩ = some (.int .i64 xo) := by rw [← hW2]; simp [go_sem]
    have q2 : W2.cell? ⟨wr.heap.size, 2, none⟩ = some (.int .i64 xw) := by rw [← hW2]; simp [go_sem]
    have q3 : W2.cell? ⟨wr.heap.size, 3, none⟩ = some (.bool xs) := by rw [← hW2]; simp [go_sem]
    have y0 := hE2.cell y0
    have HE2 := hid hE2
    have hn0 : 0 < n := by omega
    have hn1 : (0 : Int) < (n : Int) := by omega
    clear hbo hx hy hi0 hi1 hi2 hyh hPx hz hmem hkd hE2
    go_wp2_with fail
    clear hW2 x0 x1 x2 x3
    cases z with
    | false =>
     refine wp_region_held_drew (S := (fun w' => w'.cell? ⟨wr.heap.size, 0, none⟩ = some (.int .i64 xb) ∧ w'.cell? ⟨wr.heap.size, 1, none⟩ = some (.int .i64 xo) ∧ w'.cell? ⟨wr.heap.size, 2, none⟩ = some (.int .i64 xw) ∧ w'.cell? ⟨wr.heap.size, 3, none⟩ = some (.bool xs))) (by kernel_rfl) ⟨q0, q1, q2, q3⟩ (fun hSg88q0 => ?_)
     refine rgT 0 ?_
     refine rgC 1 (fun K hK => ?_)
     go_simp
     go_at_call 38
     refine (HVC.out _).mono ?_
     rintro e w5 ⟨rfl, hx5⟩
     have HX5 := hid hx5.drew_left
     clear hx5
     refine rgK hK ⟨HX5.out.cell q0, HX5.out.cell q1, HX5.out.cell q2, HX5.out.cell q3⟩ (fun hSg88q1 => ?_)
     clear hK K
     refine rgT2 2 3 ?_
     refine rgU4 4 5 6 7 ?_
     refine rgU2 8 9 ?_
     refine rgU 10 ?_
     refine rgT 11 ?_
     refine wpAnyH_done (by kernel_rfl) ?_ _
     have q0 := HX5.out.cell q0
     have HXA := hid (HE0.out.trans (HX.out.trans (HE2.out.trans HX5.out)))
     have HB := hid (HB0.out.ext (HX.out.trans (HE2.out.trans HX5.out)))
     have HRV : Hid (R = (Ty.unk, 2)) := hid (by rw [← HRR.out, if_neg (by have := HLN.out; omega), if_neg (by intro h; have h := List.all_eq_true.1 h _ HMEM.out; rw [HPX.out] at h; simp at h; try exact hbb h)])
     clear q0 q1 q2 q3 y0
     have r0 := HB.out.1
     have r1 := HB.out.2.1
     have r2 := HB.out.2.2.1
     have r3 := HB.out.2.2.2.1
     have r4 := HB.out.2.2.2.2.1
     have f0 := HB.out.2.2.2.2.2 0
     have f1 := HB.out.2.2.2.2.2 1
     have f2 := HB.out.2.2.2.2.2 2
     have f3 := HB.out.2.2.2.2.2 3
     have f4 := HB.out.2.2.2.2.2 4
     have hc := set5_cells r0 r1 r2 r3 r4 (.int .i64 0) (.int .i64 0) (.int .i64 0) (.slice none 0 0) (.slice none 0 0)
     have hx := set5_ext HXA.out (Nat.le_refl _) (.int .i64 0) (.int .i64 0) (.int .i64 0) (.slice none 0 0) (.slice none 0 0)
     obtain ⟨W6, hW6⟩ : ∃ W6, ((((w5.setCell ⟨w.heap.size, 0, none⟩ (.int .i64 0)).setCell ⟨w.heap.size, 1, none⟩ (.int .i64 0)).setCell ⟨w.heap.size, 2, none⟩ (.int .i64 0)).setCell ⟨w.heap.size, 3, none⟩ (.slice none 0 0)).setCell ⟨w.heap.size, 4, none⟩ (.slice none 0 0) = W6 := ⟨_, rfl⟩
     rw [hW6] at hc hx
     obtain ⟨t0, t1, t2, t3, t4⟩ := hc
     have HX6 := hid hx
     have HW6 := hid hW6
     clear hx hW6
     go_wp2
     rw [HW6.out]
     clear r0 r1 r2 r3 r4
     refine bodyPost_ret (v := .tuple #[.agg #[.int .i64 0, .int .i64 0, .int .i64 0, .slice none 0 0, .slice none 0 0], .int .i64 2]) (by simp [results, Tryz.results17, go_sem, t0, t1, t2, t3, t4]) rfl ?_
     refine ⟨_, by rw [HRV.out]; rfl, ?_, HX6.out⟩
     rw [HRV.out]
     exact tyV_leaf _ _ _ 0 0 (by unfold i64b; omega) (by unfold i64b; omega)
    | true =>
     by_cases hbb : xb = hb
     ·subst hbb
      have g1 : (xb != xb) = false := by simp
      refine wp_region_held_drew (S := (fun w' => w'.cell? ⟨wr.heap.size, 0, none⟩ = some (.int .i64 xb) ∧ w'.cell? ⟨wr.heap.size, 1, none⟩ = some (.int .i64 xo) ∧ w'.cell? ⟨wr.heap.size, 2, none⟩ = some (.int .i64 xw) ∧ w'.cell? ⟨wr.heap.size, 3, none⟩ = some (.bool xs) ∧ w'.cell? ⟨b, off, none⟩ = some (.int .i64 xb))) (by kernel_rfl) ⟨q0, q1, q2, q3, y0⟩ (fun hSg89q0 => ?_)
      refine rgT 0 ?_
      refine rgC 1 (fun K hK => ?_)
      go_simp
      go_at_call 38
      refine (HVC.out _).mono ?_
      rintro e w5 ⟨rfl, hx5⟩
      have HX5 := hid hx5.drew_left
      clear hx5
      refine rgK hK ⟨HX5.out.cell q0, HX5.out.cell q1, HX5.out.cell q2, HX5.out.cell q3, HX5.out.cell y0⟩ (fun hSg89q1 => ?_)
      clear hK K
      refine rgT6 2 3 4 5 6 7 ?_
      refine rgT4 8 9 10 11 ?_
      refine wpAnyH_done (by kernel_rfl) ?_ _
      have q0 := HX5.out.cell q0
      have q1 := HX5.out.cell q1
      have q2 := HX5.out.cell q2
      have q3 := HX5.out.cell q3
      have HXB := hid (HX.out.trans (HE2.out.trans HX5.out))
      clear y0
      go_wp2_with fail
      refine (HPC.out _).mono ?_
      rintro e w7 ⟨rfl, hx7⟩
      have HX7 := hid (HXB.out.trans hx7)
      have HO7 := hid (HO.out.ext (HE2.out.trans (HX5.out.trans hx7)))
      have HKL := hid (show ((l.take k).map partA).length = k by rw [List.length_map, List.length_take]; have := HLN.out; omega)
      clear q0 q1 q2 q3 hx7
      go_wp2_with (first
       | (at_builtin; refine wpList_app1l rfl (.tmp 30) (.tmp 33) 23 rfl W0.heap.size 48 i0 _ 6 80 Tryz.underlying23 HI.out HI0.out HI1.out HI2.out rfl (fdR (tyR 1)) (fdR_size _) (.slice A2 k c2) ((l.take k).map partA) rfl HO7.out w7.heap.size rfl _ rfl (HFR.out _ _) (by have := HKL.out; omega) (by have := HKL.out; omega) (by exact HX7.out.size) ?_; intro A6 c6 w6 hown6 hg6 hloc6; rw [HKL.out] at hown6; have HO6 := hid hown6; have HX6 := hid ((HX7.out.alloc _).grown hg6 (fun q hq => (HO7.out.block q hq).1)); clear hown6 hg6 hloc6; rw [HKL.out])
       | fail)
      first
       | go_roundw
       | refine ⟨?rel, ?measure⟩
      case rel => exact ⟨k + 1, A6, c6, by omega, by go_num, rfl, hid (by rw [all_snocT HXX.out, HAL.out, HPX.out]; simp), hid (by rw [take_snoc' HXX.out, List.map_append]; exact HO6.out), HX6⟩
      case measure => simp [intOf]; omega
     ·have g1 : (xb != hb) = true := by simp [hbb]
      refine wp_region_held_drew (S := (fun w' => w'.cell? ⟨wr.heap.size, 0, none⟩ = some (.int .i64 xb) ∧ w'.cell? ⟨wr.heap.size, 1, none⟩ = some (.int .i64 xo) ∧ w'.cell? ⟨wr.heap.size, 2, none⟩ = some (.int .i64 xw) ∧ w'.cell? ⟨wr.heap.size, 3, none⟩ = some (.bool xs) ∧ w'.cell? ⟨b, off, none⟩ = some (.int .i64 hb))) (by kernel_rfl) ⟨q0, q1, q2, q3, y0⟩ (fun hSg90q0 => ?_)
      refine rgT 0 ?_
      refine rgC 1 (fun K hK => ?_)
      go_simp
      go_at_call 38
      refine (HVC.out _).mono ?_
      rintro e w5 ⟨rfl, hx5⟩
      have HX5 := hid hx5.drew_left
      clear hx5
      refine rgK hK ⟨HX5.out.cell q0, HX5.out.cell q1, HX5.out.cell q2, HX5.out.cell q3, HX5.out.cell y0⟩ (fun hSg90q1 => ?_)
      clear hK K
      refine rgT6 2 3 4 5 6 7 ?_
      refine rgT4 8 9 10 11 ?_
      refine wpAnyH_done (by kernel_rfl) ?_ _
      have q0 := HX5.out.cell q0
      have HXA := hid (HE0.out.trans (HX.out.trans (HE2.out.trans HX5.out)))
      have HB := hid (HB0.out.ext (HX.out.trans (HE2.out.trans HX5.out)))
      have HRV : Hid (R = (Ty.unk, 2)) := hid (by rw [← HRR.out, if_neg (by have := HLN.out; omega), if_neg (by intro h; have h := List.all_eq_true.1 h _ HMEM.out; rw [HPX.out] at h; simp at h; try exact hbb h)])
      clear q0 q1 q2 q3 y0
      have r0 := HB.out.1
      have r1 := HB.out.2.1
      have r2 := HB.out.2.2.1
      have r3 := HB.out.2.2.2.1
      have r4 := HB.out.2.2.2.2.1
      have f0 := HB.out.2.2.2.2.2 0
      have f1 := HB.out.2.2.2.2.2 1
      have f2 := HB.out.2.2.2.2.2 2
      have f3 := HB.out.2.2.2.2.2 3
      have f4 := HB.out.2.2.2.2.2 4
      have hc := set5_cells r0 r1 r2 r3 r4 (.int .i64 0) (.int .i64 0) (.int .i64 0) (.slice none 0 0) (.slice none 0 0)
      have hx := set5_ext HXA.out (Nat.le_refl _) (.int .i64 0) (.int .i64 0) (.int .i64 0) (.slice none 0 0) (.slice none 0 0)
      obtain ⟨W6, hW6⟩ : ∃ W6, ((((w5.setCell ⟨w.heap.size, 0, none⟩ (.int .i64 0)).setCell ⟨w.heap.size, 1, none⟩ (.int .i64 0)).setCell ⟨w.heap.size, 2, none⟩ (.int .i64 0)).setCell ⟨w.heap.size, 3, none⟩ (.slice none 0 0)).setCell ⟨w.heap.size, 4, none⟩ (.slice none 0 0) = W6 := ⟨_, rfl⟩
      rw [hW6] at hc hx
      obtain ⟨t0, t1, t2, t3, t4⟩ := hc
      have HX6 := hid hx
      have HW6 := hid hW6
      clear hx hW6
      go_wp2
      rw [HW6.out]
      clear r0 r1 r2 r3 r4
      refine bodyPost_ret (v := .tuple #[.agg #[.int .i64 0, .int .i64 0, .int .i64 0, .slice none 0 0, .slice none 0 0], .int .i64 2]) (by simp [results, Tryz.results17, go_sem, t0, t1, t2, t3, t4]) rfl ?_
      refine ⟨_, by rw [HRV.out]; rfl, ?_, HX6.out⟩
      rw [HRV.out]
      exact tyV_leaf _ _ _ 0 0 (by unfold i64b; omega) (by unfold i64b; omega)
   ·obtain rfl : k = n := by omega
    have ho := HO.out
    have hal := HAL.out
    rw [List.take_of_length_le (by have := HLN.out; omega)] at ho hal
    have HRV : Hid (R = arrangeF (l.map partA)) := hid (by rw [← HRR.out, if_neg (by have := HLN.out; omega), if_pos hal])
    have HB := hid (HB0.out.ext HX.out)
    have hsl := ho.slT (S := fun b => w.heap.size < b) (fun b hb => hb) (fun b hb => by
     have h1 := (ho.block b hb).1
     have h2 := HB0.out.lt
     omega)
    have HC := hid (arrange_any 1 (fun b => w.heap.size < b) wr A2 k c2 (l.map partA) hsl (by omega) (fun f hf => by
     obtain ⟨a, ha, rfl⟩ := List.mem_map.1 hf
     have h := List.all_eq_true.1 hal a ha
     rw [HP.out a, Bool.and_eq_true] at h
     have h2 := valid_iff.1 h.1
     refine ⟨⟨h2.2.1, by show a.off ≤ 131072; omega⟩, ?_⟩
     show bnT (if a.sgn then Ty.int a.width else Ty.uint a.width) = true
     have hw := h2.1
     cases a.sgn <;> rcases hw with hw | hw | hw <;> rw [hw] <;> decide))
    have HXA := hid (HE0.out.trans HX.out)
    obtain ⟨r, hr⟩ : ∃ r, arrangeF (l.map partA) = r := ⟨_, rfl⟩
    rw [hr] at HC HRV
    have HSZ := hid (show w.heap.size ≤ wr.heap.size from (HE0.out.trans HX.out).size)
    clear ho hal hsl hr
    obtain ⟨rt, re⟩ := r
    unfold TyErr at HC
    simp only at HC
    go_wp2_with fail
    refine (HC.out).mono ?_
    rintro e w5 ⟨_, rfl, ⟨A7, n7, c7, B7, m7, e7, rfl, hv7⟩, hx5⟩
    have HXA5 := hid (HXA.out.trans hx5)
    have HB5 := hid (HB.out.ext hx5)
    have hv7' : TyV 4 w5 (fun b => w.heap.size < b ∨ wr.heap.size ≤ b) (.agg #[.int .i64 rt.kind, .int .i64 rt.size, .int .i64 rt.count, .slice A7 n7 c7, .slice B7 m7 e7]) rt := ⟨A7, n7, c7, B7, m7, e7, rfl, hv7⟩
    have HV7 := hid hv7'
    clear hx5 hv7 hv7'
    have r0 := HB5.out.1
    have r1 := HB5.out.2.1
    have r2 := HB5.out.2.2.1
    have r3 := HB5.out.2.2.2.1
    have r4 := HB5.out.2.2.2.2.1
    have f0 := HB5.out.2.2.2.2.2 0
    have f1 := HB5.out.2.2.2.2.2 1
    have f2 := HB5.out.2.2.2.2.2 2
    have f3 := HB5.out.2.2.2.2.2 3
    have f4 := HB5.out.2.2.2.2.2 4
    have hc := set5_cells r0 r1 r2 r3 r4 (.int .i64 rt.kind) (.int .i64 rt.size) (.int .i64 rt.count) (.slice A7 n7 c7) (.slice B7 m7 e7)
    have hx := set5_ext HXA5.out (Nat.le_refl _) (.int .i64 rt.kind) (.int .i64 rt.size) (.int .i64 rt.count) (.slice A7 n7 c7) (.slice B7 m7 e7)
    obtain ⟨W6, hW6⟩ : ∃ W6, ((((w5.setCell ⟨w.heap.size, 0, none⟩ (.int .i64 rt.kind)).setCell ⟨w.heap.size, 1, none⟩ (.int .i64 rt.size)).setCell ⟨w.heap.size, 2, none⟩ (.int .i64 rt.count)).setCell ⟨w.heap.size, 3, none⟩ (.slice A7 n7 c7)).setCell ⟨w.heap.size, 4, none⟩ (.slice B7 m7 e7) = W6 := ⟨_, rfl⟩
    rw [hW6] at hc hx
    obtain ⟨t0, t1, t2, t3, t4⟩ := hc
    have HX6 := hid hx
    have HW6 := hid hW6
    clear hx hW6
    go_wp2
    rw [HW6.out]
    clear r0 r1 r2 r3 r4
    refine bodyPost_ret (v := .tuple #[.agg #[.int .i64 rt.kind, .int .i64 rt.size, .int .i64 rt.count, .slice A7 n7 c7, .slice B7 m7 e7], .int .i64 re]) (by simp [results, Tryz.results17, go_sem, t0, t1, t2, t3, t4]) rfl ?_
    refine ⟨_, by rw [HRV.out], ?_, HX6.out⟩
    rw [HRV.out]
    have hgt : ∀ b, (w.heap.size < b ∨ wr.heap.size ≤ b) → IsCells w5 b → w.heap.size < b := by
     intro b hb _
     have h1 := HX.out.size
     have h2 := HB0.out.lt
     rcases hb with hb | hb
     ·exact hb
     ·omega
    refine TyV.mono (fun b hb _ => .inr (Nat.le_of_lt hb)) (TyV.keep (fun b hb _ => ?_) (TyV.mono hgt HV7.out))
    have hb' : w.heap.size < b := hb
    rw [← HW6.out]
    exact set5_heap _ _ _ _ _ _ _ (by omega)
end Go.Proofs.YtacmjhcfjhpkeaaGreatDoor
