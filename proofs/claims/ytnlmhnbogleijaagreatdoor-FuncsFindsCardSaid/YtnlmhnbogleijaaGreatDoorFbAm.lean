/- slices.Grow and slices.Concat at []uint32. -/
import Derived.Test.YtnlmhnbogleijaaGreatDoorFblm
import Derived.Test.YtnlmhnbogleijaaGreatDoorUabm
import Derived.Test.YtnlmhnbogleijaaGreatDoorCfgm
import Derived.Test.YtnlmhnbogleijaaGreatDoorLasm
namespace Go.Proofs.YtnlmhnbogleijaaGreatDoor
open Go Go.RowKit Go.Deco
set_option linter.unusedSimpArgs false
set_option linter.unusedVariables false

set_option maxRecDepth 100000 in
theorem run_append_zeros' {P : Program} (w : World) (t u ty e : TypeId) (i : TypeInfo) (z : Value) (ht : P.underlying t = some (.slice e)) (hu : P.underlying u = some (.int .i64)) (hi : P.info? e = some i) (hz : i.zero = some z)
    (n : Nat) (m : Int) (hm : m.toNat = n) (hs : n * i.size ≠ 0) (hn : n ≠ 0) (hw : IntKind.i64.wrap m = m) (hneg : ¬ m < 0) (hle : ¬ m ≤ 0) (hmx : max m 0 = m) (h63 : ¬ (9223372036854775807 < m)) (hb : ¬ (281474976710656 < m * (i.bytes : Int))) (h48 : ¬ (281474976710656 < Builtin.nextslicecap n 0 * i.bytes)) :
    (Builtin.append_ #[t, u] ty #[.slice none 0 0, .int .i64 m]).run P w =
      .ok (.slice (some ⟨w.heap.size, 0, none⟩) n (grownCap w n 0 e)) (w.drew.alloc (.cells (Builtin.zeroCells z.cells n ++ Builtin.zeroCells z.cells (grownCap w n 0 e - n)) e)) := by
  simp [Builtin.append_, run_underlying ht, run_underlying hu, sizeOf, typeInfo, zeroValue, hi, hz, asInt, asIntOf, hw, hneg, hle, hmx, hb, hn, hs, hm, h63, h48, Question.forced, run_firstCells_none, newRow, grownCap]
theorem run_append_zeros {P : Program} (w : World) (t u ty e : TypeId) (i : TypeInfo) (z : Value) (ht : P.underlying t = some (.slice e)) (hu : P.underlying u = some (.int .i64)) (hi : P.info? e = some i) (hz : i.zero = some z)
    (n : Nat) (hs : n * i.size ≠ 0) (h0 : 0 < n) (h63 : (n : Int) ≤ 9223372036854775807) (h48 : n * i.bytes ≤ 281474976710656) :
    (Builtin.append_ #[t, u] ty #[.slice none 0 0, .int .i64 n]).run P w =
      .ok (.slice (some ⟨w.heap.size, 0, none⟩) n (grownCap w n 0 e)) (w.drew.alloc (.cells (Builtin.zeroCells z.cells n ++ Builtin.zeroCells z.cells (grownCap w n 0 e - n)) e)) := by
  have hb : ((n * i.bytes : Nat) : Int) ≤ 281474976710656 := by omega
  rw [Int.natCast_mul] at hb
  exact run_append_zeros' w t u ty e i z ht hu hi hz n n (by omega) hs (by omega) (IntWalk.i64_in _ (by omega)) (by omega) (by omega) (by omega) (by omega) (by omega) (by rw [nextslicecap_zero h0]; omega)
theorem wpList_zeros {P : Program} {ops : Array Oper} {rest : List Oper} {o : Oper} {a : Act} {Q : Exit → Act → World → Prop} {W : World} (hgd : o.guard = none) (s x : Operand) (t u : TypeId)
    (ho : o.op = .call { callee := .builtin .append, args := #[s, x], argTypes := #[t, u] }) (e : TypeId) (i : TypeInfo) (z : Value) (ht : P.underlying t = some (.slice e)) (hu : P.underlying u = some (.int .i64)) (hi : P.info? e = some i) (hz : i.zero = some z)
    (n : Nat) (hs : a.eval s = .slice none 0 0) (hx : a.eval x = .int .i64 n) (hsz : n * i.size ≠ 0) (h0 : 0 < n) (h63 : (n : Int) ≤ 9223372036854775807) (h48 : n * i.bytes ≤ 281474976710656)
    (h : wpList P ops Q rest (a.put o.dst (.slice (some ⟨W.heap.size, 0, none⟩) n (grownCap W n 0 e))) (W.drew.alloc (.cells (Builtin.zeroCells z.cells n ++ Builtin.zeroCells z.cells (grownCap W n 0 e - n)) e))) :
    wpList P ops Q (o :: rest) a W :=
  wpList_plain hgd fun _ hK => by
    have hrun := run_append_zeros (P := P) W t u o.type e i z ht hu hi hz n hsz h0 h63 h48
    unfold Oper.wp execOp
    simp only [ho, resolve, invoke, builtin, Sem.run_bind, Sem.run_pure, Result.andThen_ok, List.map_toArray, List.map_cons, List.map_nil, hs, hx, hrun]
    exact hK _ _ h
theorem sl_zero (A : Option Addr) (n c : Nat) (hn : n ≤ c) (hA : A = none ∧ c = 0 ∨ ∃ g, A = some ⟨g, 0, none⟩ ∧ 0 < c) (w : World) : (Instr.sliceAt 23 (.slice A n c) none (some (.int .i64 0)) none).run Tryz.prog w = .ok (.slice A 0 c) w := by
  have hel : Tryz.prog.elem 23 = 38 := by kernel_rfl
  have ht' : Tryz.prog.underlying 23 = some (.slice (Tryz.prog.elem 23)) := by rw [hel]; exact Tryz.underlying23
  have hs : (sizeOf (Tryz.prog.elem 23)).run Tryz.prog w = .ok 1 w := by kernel_rfl
  rw [run_sliceAt_slice (h := ht'), run_slice_h (ht := ht') (h0 := by omega) (h2 := by omega), hs]
  rcases hA with ⟨rfl, rfl⟩ | ⟨g, rfl, hc⟩
  · simp [sliced]
  · simp [sliced, Addr.add]
set_option maxRecDepth 100000 in
set_option maxHeartbeats 1000000 in
theorem grow32_any (w : World) (n : Nat) (hn : n ≤ 1000000) : Calls Tryz.prog 55 #[.slice none 0 0, .int .i64 n] w fun e w' => Ext w w' ∧ ∃ A c, e = .returned (.slice A 0 c) ∧ OwnS u32R w' w.heap.size 38 All (.slice A 0 c) [] := by
  obtain ⟨k0, hkf, hk0, hk1, hk2⟩ := info_parts info_w32
  have HKF := hid hkf
  have HK0 := hid hk0
  have HK1 := hid hk1
  have HK2 := hid hk2
  clear hkf hk0 hk1 hk2
  by_cases h0 : n = 0
  · subst h0
    go_enter Tryz.func55, Tryz.ntmps55
    go_wp2
    go_ret
    exact ⟨Ext.refl w, none, 0, rfl, OwnS.nil⟩
  · have hz1 := sl_zero none 0 0 (by omega) (.inl ⟨rfl, rfl⟩)
    have hn0 : decide ((n : Int) < 0) = false := decide_eq_false (by omega)
    have hn1 : decide ((n : Int) > 0) = true := decide_eq_true (by omega)
    have hn2 : decide (0 < (n : Int)) = true := decide_eq_true (by omega)
    have hn3 : decide (0 < n) = true := decide_eq_true (by omega)
    have hwr : IntKind.i64.wrap (n : Int) = n := IntWalk.i64_in _ (by omega)
    have H0 := hid h0
    have HN := hid hn
    clear h0 hn
    go_enter Tryz.func55, Tryz.ntmps55
    go_wp2_with (first
      | (at_builtin; refine wpList_zeros rfl (.tmp 20) (.tmp 21) 23 3 rfl 38 k0 (.int .u32 0) Tryz.underlying23 Tryz.underlying3 HKF.out HK0.out n rfl rfl (by rw [HK1.out]; have := H0.out; omega) (by have := H0.out; omega) (by have := HN.out; omega) (by rw [HK2.out]; have := HN.out; omega) ?_)
      | fail)
    go_ret
    have hc1 := grownCap_ge w n 0 38
    have hc2 := grownCap_le_maxLen w n 0 38 (by have := HN.out; unfold maxLen; omega)
    refine ⟨((Ext.refl w).alloc _).drew, _, _, rfl, OwnS.dr ⟨[], World.ownsRow_made w _ _ (Nat.le_refl _) hc2 ?_, rfl⟩⟩
    rw [Array.size_append, size_zeroCells, size_zeroCells, show u32R.size = 1 from rfl]
    show n * 1 + (grownCap w n 0 38 - n) * 1 = _
    omega

theorem row_at32 {w : World} {S : Nat → Prop} {A : Option Addr} {n c k : Nat} {l : List (List Nat)} {x : List Nat} (h : Sl u32sR w S (.slice A n c) l) (hk : l[k]? = some x) :
    ∃ b off A' c', A = some ⟨b, off, none⟩ ∧ w.cell? ⟨b, off + k, none⟩ = some (.slice A' x.length c') ∧ Sl u32R w S (.slice A' x.length c') x := by
  obtain ⟨b, off, cs, hA, ⟨v, hcs, hv⟩, hc⟩ := h.get hk
  obtain ⟨A', c', rfl, _⟩ := hv.form
  subst hcs
  exact ⟨b, off, A', c', hA, by simpa [slR] using hc 0 _ rfl, hv⟩
theorem flat_step {l : List (List Nat)} {k : Nat} {x : List Nat} (h : l[k]? = some x) : (l.take (k + 1)).flatten = (l.take k).flatten ++ x := by rw [take_snoc' h, List.flatten_append]; simp
theorem flat_le (l : List (List Nat)) (k : Nat) : (l.take k).flatten.length ≤ l.flatten.length := by
  have h : l.flatten = (l.take k).flatten ++ (l.drop k).flatten := by rw [← List.flatten_append, List.take_append_drop]
  rw [h, List.length_append]
  omega

set_option maxRecDepth 100000 in
set_option maxHeartbeats 2000000 in
theorem concat32_any (w : World) (T : Option Addr) (nt ct : Nat) (l : List (List Nat)) (ht : Sl u32sR w All (.slice T nt ct) l) (hl : l.flatten.length ≤ 100000) :
    Calls Tryz.prog 36 #[.slice T nt ct] w (RowPost w l.flatten) := by
  obtain ⟨k0, hkf, hk0, hk1, hk2⟩ := info_parts info_w32
  have HKF := hid hkf
  have HK0 := hid hk0
  have HK1 := hid hk1
  have HK2 := hid hk2
  have HLN := hid ht.len
  have HS := hid ht
  have hcap := ht.cap
  have HB := hid hl
  clear hkf hk0 hk1 hk2 ht hl
  go_enter Tryz.func36, Tryz.ntmps36
  go_wp2
  go_loopw [3, 11] (fun s3 s11 wr => ∃ k m : Nat, k ≤ nt ∧ s11 = .int .i64 k ∧ s3 = .int .i64 m ∧ Hid (m = ((l.take k).flatten).length) ∧ Hid (w = wr)) (fun _ s11 _ => nt - (intOf s11).toNat)
  case atStart => exact ⟨0, 0, by omega, rfl, rfl, hid (by first | rfl | simp), hid (by first | rfl | trivial)⟩
  case round =>
    obtain ⟨k, m, hk, rfl, rfl, HM, HW⟩ := hrel
    have hw := HW.out
    subst hw
    by_cases hkn : k < nt
    · obtain ⟨x, hx⟩ : ∃ x, l[k]? = some x := ⟨_, List.getElem?_eq_getElem (by have := HLN.out; omega)⟩
      obtain ⟨b, off, A', c', rfl, e1, -⟩ := row_at32 HS.out hx
      obtain ⟨L, hL⟩ : ∃ L, x.length = L := ⟨_, rfl⟩
      rw [hL] at e1
      have hst : m + L = ((l.take (k + 1)).flatten).length := by rw [flat_step hx, List.length_append, ← HM.out, hL]
      have hle := flat_le l (k + 1)
      have hb := HB.out
      have hsum : m + L ≤ 100000 := by omega
      have hwr : IntKind.i64.wrap ((m : Int) + (L : Int)) = ((m + L : Nat) : Int) := by rw [IntWalk.i64_in _ (by omega)]; omega
      obtain ⟨S, hS⟩ : ∃ S, m + L = S := ⟨_, rfl⟩
      rw [hS] at hwr hst hsum
      have hS0 : decide ((S : Int) < 0) = false := decide_eq_false (by omega)
      have HST := hid hst
      clear hx hL hst hle hb hS HM
      go_wp2
      first
        | go_roundw
        | refine ⟨?rel, ?measure⟩
      case rel => exact ⟨k + 1, S, by omega, by go_num, rfl, HST, hid (by first | rfl | trivial)⟩
      case measure => simp [intOf]; omega
    · obtain rfl : k = nt := by omega
      have hme : m = l.flatten.length := by rw [HM.out, List.take_of_length_le (by have := HLN.out; omega)]
      have HG := hid (grow32_any w m (by have := HB.out; omega))
      have HME := hid hme
      clear hme HM
      go_wp2_with fail
      refine (HG.out).mono ?_
      rintro e w1 ⟨hx1, A1, c1, rfl, ho1⟩
      have HX1 := hid hx1
      have HO1 := hid ho1
      have HS1 : Hid (Sl u32sR w (fun b => b < w.heap.size) (.slice T k ct) l) := hid (HS.out.mono (fun b _ h => h.lt))
      clear hx1 ho1
      go_wp2
      go_loopw [6, 27] (fun s6 s27 wr => ∃ (k2 : Nat) (A : Option Addr) (c : Nat), k2 ≤ k ∧ s27 = .int .i64 k2 ∧ s6 = .slice A ((l.take k2).flatten).length c ∧ Hid (Ext w wr) ∧ Hid (OwnS u32R wr w.heap.size 38 All (.slice A ((l.take k2).flatten).length c) ((l.take k2).flatten))) (fun _ s27 _ => k - (intOf s27).toNat)
      case atStart => exact ⟨0, A1, c1, by omega, rfl, by simp, HX1, hid (by simpa using HO1.out)⟩
      case round =>
        obtain ⟨k2, A, c, hk2, rfl, rfl, HXb, HO⟩ := hrel
        by_cases hkn2 : k2 < k
        · obtain ⟨x, hx⟩ : ∃ x, l[k2]? = some x := ⟨_, List.getElem?_eq_getElem (by have := HLN.out; omega)⟩
          obtain ⟨b, off, A', c', rfl, e1, s1⟩ := row_at32 (HS1.out.ext HXb.out) hx
          obtain ⟨L, hL⟩ : ∃ L, x.length = L := ⟨_, rfl⟩
          rw [hL] at e1 s1
          have HS2 := hid s1
          have HFL := hid (flat_step hx)
          obtain ⟨F, hF⟩ : ∃ F, (l.take k2).flatten = F := ⟨_, rfl⟩
          rw [hF] at HFL HO ⊢
          obtain ⟨M, hM⟩ : ∃ M, F.length = M := ⟨_, rfl⟩
          rw [hM] at HO ⊢
          have hle := flat_le l (k2 + 1)
          rw [HFL.out, List.length_append, hM, hL] at hle
          have hb := HB.out
          have hsum : M + L ≤ 100000 := by omega
          have HM := hid hM
          have HL := hid hL
          clear hx s1 hL hF hM hle hb
          obtain ⟨V, hV⟩ : ∃ V, V = wr := ⟨_, rfl⟩
          subst hV
          go_wp2_with (first
            | (at_builtin; refine wpList_appS rfl (.tmp 31) (.tmp 32) 23 rfl w.heap.size 38 k0 _ 1 4 Tryz.underlying23 HKF.out HK0.out HK1.out HK2.out rfl u32R rfl (.slice A M c) F rfl HO.out A' L c' x (fun b => b < w.heap.size) rfl HS2.out (fun d hd _ => ⟨trivial, fun e => by have := (HO.out.block _ e.symm).1; omega⟩) (by rw [HM.out]; omega) (by rw [HM.out]; omega) HXb.out.size ?_; intro A8 c8 w8 hown8 hg8 _; have HO8 := hid hown8; have HX8 := hid (HXb.out.grown hg8 (fun b hb => (HO.out.block _ hb).1)); clear hown8 hg8)
            | fail)
          first
            | go_roundw
            | refine ⟨?rel, ?measure⟩
          case rel =>
            rw [HM.out] at HO8
            refine ⟨k2 + 1, A8, c8, by omega, by go_num, ?_, HX8, ?_⟩
            · rw [HFL.out, List.length_append, HM.out, HL.out]
            · rw [HFL.out, List.length_append, HM.out, HL.out]
              exact HO8
          case measure => simp [intOf]; omega
        · obtain rfl : k2 = k := by omega
          have hfl : (l.take k2).flatten = l.flatten := by rw [List.take_of_length_le (by have := HLN.out; omega)]
          have HF := hid hfl
          obtain ⟨F, hF⟩ : ∃ F, (l.take k2).flatten = F := ⟨_, rfl⟩
          rw [hF] at HO HF ⊢
          clear hfl hF
          go_wp2
          go_ret
          rw [← HF.out]
          exact ⟨HXb.out, A, c, rfl, HO.out⟩
end Go.Proofs.YtnlmhnbogleijaaGreatDoor
