/- types.printer.integer. types.printer.write. types.Print. -/
import Derived.Test.YtacmjhcfjhpkeaaGreatDoorBldm
import Derived.Test.YtacmjhcfjhpkeaaGreatDoorTxbm
namespace Go.Proofs.YtacmjhcfjhpkeaaGreatDoor
open Go.RowKit Go.Deco
set_option linter.unusedSimpArgs false
set_option linter.unusedVariables false

/-- What a call that writes to the printer b leaves. -/
def KP (B b : Nat) (w w' : World) : Prop := Below B w w' ∧ Lib.OthersKept 5 (some b) w w'
section
variable {B b : Nat} {w0 w w' w'' : World} {L : List Nat}
theorem KP.refl : KP B b w w := ⟨Below.refl _ _, Lib.OthersKept.refl _ _ _⟩
theorem KP.trans (h : KP B b w w') (k : KP B b w' w'') : KP B b w w'' := ⟨h.1.trans k.1, h.2.trans k.2⟩
theorem ext_kept (h : Ext w w') : Lib.OthersKept 5 (some b) w w' := fun k o hk _ _ => h.heapAt hk
theorem KP.of_ext (h : Ext w w') (hB : B ≤ w.heap.size) : KP B b w w' := ⟨Below.mono h hB, ext_kept h⟩
theorem KP.ext (h : KP B b w w') (hx : Ext w0 w) (hB : w0.heap.size ≤ B) : Ext w0 w' := Below.trans hx (h.1.mono hB)
theorem KP.at (h : KP B b w w') {k : Nat} {cs : Array Value} {T : TypeId} (hk : w.heap[k]? = some (.cells cs T (0, 0))) (hb : k ≠ b) (hT : T ≠ 5) : w'.heap[k]? = some (.cells cs T (0, 0)) :=
 h.2 k _ hk (fun e => hb (Option.some.inj e)) (fun c fz e => hT (by injection e))
theorem PrIs.lt (h : PrIs B b L w) : B ≤ b ∧ b < w.heap.size := by
 rcases h with h | h <;> exact ⟨h.1, h.lt⟩
theorem PrIs.kept (h : PrIs B b L w) (he : Ext w w') : PrIs B b L w' := by
 have key : ∀ {p}, Lib.BuilderAtF 88 5 B b p (Lib.byteCells (L.map UInt8.ofNat)) w → Lib.BuilderAtF 88 5 B b p (Lib.byteCells (L.map UInt8.ofNat)) w' := by
  rintro p ⟨hB, v, hb, hown, hne⟩
  exact ⟨hB, v, he.heapAt hb, hown.kept (he.grownBy (some b)) (.inr hne), hne⟩
 rcases h with h | h
 ·exact .inl (key h)
 ·exact .inr (key h)
end
theorem Tab10.ext {w w' : World} (h : Tab10 w) (he : Ext w w') : Tab10 w' := by
 unfold Tab10 Lib.TabIs World.var? at *
 cases hg : Tryz.prog.globalNamed "internal/strconv.uint64pow10" with
 | none => rw [hg] at h; cases h
 | some g =>
  rw [hg] at h
  simp only [Option.bind_some] at h ⊢
  cases ho : w.heap[g]? with
  | none => rw [ho] at h; cases h
  | some o => rw [he.heapAt ho]; rw [ho] at h; exact h
/-- What a writing call returns. -/
def PrOut (r : Value) (B b : Nat) (L : List Nat) (w : World) : Ending → World → Prop := fun e w' => e = .returned r ∧ PrIs B b L w' ∧ KP B b w w'
theorem ws_any (B b : Nat) (L S : List Nat) (hlen : L.length + S.length ≤ 1000000000) (w : World) (h : PrIs B b L w) :
  Calls Tryz.prog 72 #[.pointer (some ⟨b, 0, none⟩), .string (strOf S)] w (PrOut (.tuple #[.int .i64 S.length, .nilIface]) B b (L ++ S) w) := by
 refine (bws_any B b L S w h hlen (by have := h.lt; omega)).mono ?_
 rintro e w' ⟨rfl, h1, h2⟩
 exact ⟨rfl, h1, h2⟩

set_option maxRecDepth 100000 in
set_option maxHeartbeats 4000000 in
theorem pint_any (B b : Nat) (L : List Nat) (w0 w : World) (k s c : Int) (A : Option Addr) (na ca : Nat) (E : Option Addr) (nb cb : Nat) (hp : PrIs B b L w) (ht : Tab10 w0) (hx : Ext w0 w) (h0 : w0.heap.size ≤ B)
  (hk : k = 1 ∨ k = 2) (hs : s = 1 ∨ s = 2 ∨ s = 4) (hl : L.length ≤ 900000000) :
  Calls Tryz.prog 99 #[.pointer (some ⟨b, 0, none⟩), .agg #[.int .i64 k, .int .i64 s, .int .i64 c, .slice A na ca, .slice E nb cb]] w
   (PrOut (.tuple #[]) B b (L ++ ((if k = 2 then [117] else []) ++ ([105, 110, 116] ++ decN (8 * s).toNat))) w) := by
 have HV0 := hid hx
 obtain ⟨W0, hW0⟩ : ∃ W0, w.alloc (.cells #[.int .i64 k, .int .i64 s, .int .i64 c, .slice A na ca, .slice E nb cb] 25) = W0 := ⟨_, rfl⟩
 have hE0 : Ext w W0 := by rw [← hW0]; exact (Ext.refl w).alloc _
 have o0 : W0.cell? ⟨w.heap.size, 0, none⟩ = some (.int .i64 k) := by rw [← hW0]; simp [go_sem]
 have o1 : W0.cell? ⟨w.heap.size, 1, none⟩ = some (.int .i64 s) := by rw [← hW0]; simp [go_sem]
 have hh : W0.heap[w.heap.size]? = some (.cells #[.int .i64 k, .int .i64 s, .int .i64 c, .slice A na ca, .slice E nb cb] 25 (0, 0)) := by rw [← hW0]; exact heap_alloc_new w _
 have HH := hid hh
 have HE0 := hid hE0
 have HP0 := hid (hp.kept hE0)
 have hbn : w.heap.size ≠ b := by have := hp.lt; omega
 have HV1 := hid (hx.trans hE0)
 clear hh hE0
 have HT := hid ht
 obtain ⟨Y, hY⟩ : ∃ Y, L ++ ((if k = 2 then [117] else []) ++ ([105, 110, 116] ++ decN (8 * s).toNat)) = Y := ⟨_, rfl⟩
 rw [hY]
 have HB : Hid (B ≤ w.heap.size) := hid (by have := hp.lt; omega)
 rcases hk with rfl | rfl
 ·rcases hs with rfl | rfl | rfl
  ·
   have HY := hid hY
   clear hY
   go_enter Tryz.func99, Tryz.ntmps99
   have hl21 := (decN_len 8).1
   obtain ⟨D, hD⟩ : ∃ D, decN 8 = D := ⟨_, rfl⟩
   have HIT := hid (fun w' (hw : Ext w0 w') => itoa_any w' (HT.out.ext hw) 8 (by omega))
   rw [hD] at HIT hl21
   have z1 : ¬ 9223372036854775807 < 3 + (strOf D).size := by rw [strOf_size]; omega
   have e1' : (⟨#[105, 110, 116]⟩ : ByteArray) ++ strOf D = strOf ([105, 110, 116] ++ D) := strOf_app [105, 110, 116] D
   have HWS := hid (ws_any B b L ([105, 110, 116] ++ D) (by simp; omega))
   have HR : Hid ((L) ++ ([105, 110, 116] ++ D) = Y) := hid (by rw [← HY.out, ← hD]; simp)
   clear hD hl21
   generalize hDD : [105, 110, 116] ++ D = DD at *
   clear hDD
   go_wp2_with fail
   refine wp_region_held_drew (S := (fun w' => w'.cell? ⟨w.heap.size, 1, none⟩ = some (.int .i64 1))) (by kernel_rfl) o1 (fun hSg80q0 => ?_)
   refine rgT6 0 1 2 3 4 5 ?_
   refine rgC 6 (fun K hK => ?_)
   go_simp
   go_at_call 100
   refine (HIT.out _ (HV1.out).drew).mono ?_
   rintro e w5 ⟨rfl, hx5⟩
   have HX5 := hid hx5.drew_left
   clear hx5
   refine rgK hK (HX5.out.cell o1) (fun hSg80q1 => ?_)
   clear hK K
   refine rgT 7 ?_
   refine rgC 8 (fun K hK => ?_)
   go_simp
   go_at_call 72
   refine (HWS.out _ (HP0.out.kept HX5.out)).mono ?_
   rintro e w6 ⟨rfl, hp6, hk6⟩
   have HP6 := hid hp6
   have HK6 := hid hk6
   clear hp6 hk6
   refine rgK hK ((Lib.cell_of_heap (HK6.out.at (HX5.out.heapAt HH.out) hbn (by decide)) 1).trans rfl) (fun hSg80q2 => ?_)
   clear hK K
   refine wpAnyH_done (by kernel_rfl) ?_ _
   go_wp2
   go_end0
   exact ⟨rfl, by have := HP6.out; rw [HR.out] at this; exact this, (KP.of_ext (HE0.out.trans HX5.out) HB.out).trans HK6.out⟩
  ·
   have HY := hid hY
   clear hY
   go_enter Tryz.func99, Tryz.ntmps99
   have hl21 := (decN_len 16).1
   obtain ⟨D, hD⟩ : ∃ D, decN 16 = D := ⟨_, rfl⟩
   have HIT := hid (fun w' (hw : Ext w0 w') => itoa_any w' (HT.out.ext hw) 16 (by omega))
   rw [hD] at HIT hl21
   have z1 : ¬ 9223372036854775807 < 3 + (strOf D).size := by rw [strOf_size]; omega
   have e1' : (⟨#[105, 110, 116]⟩ : ByteArray) ++ strOf D = strOf ([105, 110, 116] ++ D) := strOf_app [105, 110, 116] D
   have HWS := hid (ws_any B b L ([105, 110, 116] ++ D) (by simp; omega))
   have HR : Hid ((L) ++ ([105, 110, 116] ++ D) = Y) := hid (by rw [← HY.out, ← hD]; simp)
   clear hD hl21
   generalize hDD : [105, 110, 116] ++ D = DD at *
   clear hDD
   go_wp2_with fail
   refine wp_region_held_drew (S := (fun w' => w'.cell? ⟨w.heap.size, 1, none⟩ = some (.int .i64 2))) (by kernel_rfl) o1 (fun hSg81q0 => ?_)
   refine rgT6 0 1 2 3 4 5 ?_
   refine rgC 6 (fun K hK => ?_)
   go_simp
   go_at_call 100
   refine (HIT.out _ (HV1.out).drew).mono ?_
   rintro e w5 ⟨rfl, hx5⟩
   have HX5 := hid hx5.drew_left
   clear hx5
   refine rgK hK (HX5.out.cell o1) (fun hSg81q1 => ?_)
   clear hK K
   refine rgT 7 ?_
   refine rgC 8 (fun K hK => ?_)
   go_simp
   go_at_call 72
   refine (HWS.out _ (HP0.out.kept HX5.out)).mono ?_
   rintro e w6 ⟨rfl, hp6, hk6⟩
   have HP6 := hid hp6
   have HK6 := hid hk6
   clear hp6 hk6
   refine rgK hK ((Lib.cell_of_heap (HK6.out.at (HX5.out.heapAt HH.out) hbn (by decide)) 1).trans rfl) (fun hSg81q2 => ?_)
   clear hK K
   refine wpAnyH_done (by kernel_rfl) ?_ _
   go_wp2
   go_end0
   exact ⟨rfl, by have := HP6.out; rw [HR.out] at this; exact this, (KP.of_ext (HE0.out.trans HX5.out) HB.out).trans HK6.out⟩
  ·
   have HY := hid hY
   clear hY
   go_enter Tryz.func99, Tryz.ntmps99
   have hl21 := (decN_len 32).1
   obtain ⟨D, hD⟩ : ∃ D, decN 32 = D := ⟨_, rfl⟩
   have HIT := hid (fun w' (hw : Ext w0 w') => itoa_any w' (HT.out.ext hw) 32 (by omega))
   rw [hD] at HIT hl21
   have z1 : ¬ 9223372036854775807 < 3 + (strOf D).size := by rw [strOf_size]; omega
   have e1' : (⟨#[105, 110, 116]⟩ : ByteArray) ++ strOf D = strOf ([105, 110, 116] ++ D) := strOf_app [105, 110, 116] D
   have HWS := hid (ws_any B b L ([105, 110, 116] ++ D) (by simp; omega))
   have HR : Hid ((L) ++ ([105, 110, 116] ++ D) = Y) := hid (by rw [← HY.out, ← hD]; simp)
   clear hD hl21
   generalize hDD : [105, 110, 116] ++ D = DD at *
   clear hDD
   go_wp2_with fail
   refine wp_region_held_drew (S := (fun w' => w'.cell? ⟨w.heap.size, 1, none⟩ = some (.int .i64 4))) (by kernel_rfl) o1 (fun hSg82q0 => ?_)
   refine rgT6 0 1 2 3 4 5 ?_
   refine rgC 6 (fun K hK => ?_)
   go_simp
   go_at_call 100
   refine (HIT.out _ (HV1.out).drew).mono ?_
   rintro e w5 ⟨rfl, hx5⟩
   have HX5 := hid hx5.drew_left
   clear hx5
   refine rgK hK (HX5.out.cell o1) (fun hSg82q1 => ?_)
   clear hK K
   refine rgT 7 ?_
   refine rgC 8 (fun K hK => ?_)
   go_simp
   go_at_call 72
   refine (HWS.out _ (HP0.out.kept HX5.out)).mono ?_
   rintro e w6 ⟨rfl, hp6, hk6⟩
   have HP6 := hid hp6
   have HK6 := hid hk6
   clear hp6 hk6
   refine rgK hK ((Lib.cell_of_heap (HK6.out.at (HX5.out.heapAt HH.out) hbn (by decide)) 1).trans rfl) (fun hSg82q2 => ?_)
   clear hK K
   refine wpAnyH_done (by kernel_rfl) ?_ _
   go_wp2
   go_end0
   exact ⟨rfl, by have := HP6.out; rw [HR.out] at this; exact this, (KP.of_ext (HE0.out.trans HX5.out) HB.out).trans HK6.out⟩
 ·rcases hs with rfl | rfl | rfl
  ·
   have HY := hid hY
   have HW1 := hid (ws_any B b L [117] (by simp; omega))
   clear hY
   go_enter Tryz.func99, Tryz.ntmps99
   go_wp2_with fail
   refine (HW1.out _ HP0.out).mono ?_
   rintro e w1 ⟨rfl, hp1, hk1⟩
   have HP1 := hid hp1
   have HK1 := hid hk1
   have hh1 := hk1.at HH.out hbn (by decide)
   have u1 : w1.cell? ⟨w.heap.size, 1, none⟩ = some (.int .i64 1) := (Lib.cell_of_heap hh1 1).trans rfl
   have HH1 := hid hh1
   have HV2 := hid (hk1.ext HV1.out h0)
   clear hp1 hk1 hh1 o0 o1
   have hl21 := (decN_len 8).1
   obtain ⟨D, hD⟩ : ∃ D, decN 8 = D := ⟨_, rfl⟩
   have HIT := hid (fun w' (hw : Ext w0 w') => itoa_any w' (HT.out.ext hw) 8 (by omega))
   rw [hD] at HIT hl21
   have z1 : ¬ 9223372036854775807 < 3 + (strOf D).size := by rw [strOf_size]; omega
   have e1' : (⟨#[105, 110, 116]⟩ : ByteArray) ++ strOf D = strOf ([105, 110, 116] ++ D) := strOf_app [105, 110, 116] D
   have HWS := hid (ws_any B b (L ++ [117]) ([105, 110, 116] ++ D) (by simp; omega))
   have HR : Hid (((L ++ [117])) ++ ([105, 110, 116] ++ D) = Y) := hid (by rw [← HY.out, ← hD]; simp)
   clear hD hl21
   generalize hDD : [105, 110, 116] ++ D = DD at *
   clear hDD
   go_wp2_with fail
   refine wp_region_held_drew (S := (fun w' => w'.cell? ⟨w.heap.size, 1, none⟩ = some (.int .i64 1))) (by kernel_rfl) u1 (fun hSg83q0 => ?_)
   refine rgT6 0 1 2 3 4 5 ?_
   refine rgC 6 (fun K hK => ?_)
   go_simp
   go_at_call 100
   refine (HIT.out _ (HV2.out).drew).mono ?_
   rintro e w5 ⟨rfl, hx5⟩
   have HX5 := hid hx5.drew_left
   clear hx5
   refine rgK hK (HX5.out.cell u1) (fun hSg83q1 => ?_)
   clear hK K
   refine rgT 7 ?_
   refine rgC 8 (fun K hK => ?_)
   go_simp
   go_at_call 72
   refine (HWS.out _ (HP1.out.kept HX5.out)).mono ?_
   rintro e w6 ⟨rfl, hp6, hk6⟩
   have HP6 := hid hp6
   have HK6 := hid hk6
   clear hp6 hk6
   refine rgK hK ((Lib.cell_of_heap (HK6.out.at (HX5.out.heapAt HH1.out) hbn (by decide)) 1).trans rfl) (fun hSg83q2 => ?_)
   clear hK K
   refine wpAnyH_done (by kernel_rfl) ?_ _
   go_wp2
   go_end0
   exact ⟨rfl, by have := HP6.out; rw [HR.out] at this; exact this, ((KP.of_ext HE0.out HB.out).trans HK1.out).trans ((KP.of_ext HX5.out (Nat.le_trans HB.out (Nat.le_trans HE0.out.size HK1.out.1.size))).trans HK6.out)⟩
  ·
   have HY := hid hY
   have HW1 := hid (ws_any B b L [117] (by simp; omega))
   clear hY
   go_enter Tryz.func99, Tryz.ntmps99
   go_wp2_with fail
   refine (HW1.out _ HP0.out).mono ?_
   rintro e w1 ⟨rfl, hp1, hk1⟩
   have HP1 := hid hp1
   have HK1 := hid hk1
   have hh1 := hk1.at HH.out hbn (by decide)
   have u1 : w1.cell? ⟨w.heap.size, 1, none⟩ = some (.int .i64 2) := (Lib.cell_of_heap hh1 1).trans rfl
   have HH1 := hid hh1
   have HV2 := hid (hk1.ext HV1.out h0)
   clear hp1 hk1 hh1 o0 o1
   have hl21 := (decN_len 16).1
   obtain ⟨D, hD⟩ : ∃ D, decN 16 = D := ⟨_, rfl⟩
   have HIT := hid (fun w' (hw : Ext w0 w') => itoa_any w' (HT.out.ext hw) 16 (by omega))
   rw [hD] at HIT hl21
   have z1 : ¬ 9223372036854775807 < 3 + (strOf D).size := by rw [strOf_size]; omega
   have e1' : (⟨#[105, 110, 116]⟩ : ByteArray) ++ strOf D = strOf ([105, 110, 116] ++ D) := strOf_app [105, 110, 116] D
   have HWS := hid (ws_any B b (L ++ [117]) ([105, 110, 116] ++ D) (by simp; omega))
   have HR : Hid (((L ++ [117])) ++ ([105, 110, 116] ++ D) = Y) := hid (by rw [← HY.out, ← hD]; simp)
   clear hD hl21
   generalize hDD : [105, 110, 116] ++ D = DD at *
   clear hDD
   go_wp2_with fail
   refine wp_region_held_drew (S := (fun w' => w'.cell? ⟨w.heap.size, 1, none⟩ = some (.int .i64 2))) (by kernel_rfl) u1 (fun hSg84q0 => ?_)
   refine rgT6 0 1 2 3 4 5 ?_
   refine rgC 6 (fun K hK => ?_)
   go_simp
   go_at_call 100
   refine (HIT.out _ (HV2.out).drew).mono ?_
   rintro e w5 ⟨rfl, hx5⟩
   have HX5 := hid hx5.drew_left
   clear hx5
   refine rgK hK (HX5.out.cell u1) (fun hSg84q1 => ?_)
   clear hK K
   refine rgT 7 ?_
   refine rgC 8 (fun K hK => ?_)
   go_simp
   go_at_call 72
   refine (HWS.out _ (HP1.out.kept HX5.out)).mono ?_
   rintro e w6 ⟨rfl, hp6, hk6⟩
   have HP6 := hid hp6
   have HK6 := hid hk6
   clear hp6 hk6
   refine rgK hK ((Lib.cell_of_heap (HK6.out.at (HX5.out.heapAt HH1.out) hbn (by decide)) 1).trans rfl) (fun hSg84q2 => ?_)
   clear hK K
   refine wpAnyH_done (by kernel_rfl) ?_ _
   go_wp2
   go_end0
   exact ⟨rfl, by have := HP6.out; rw [HR.out] at this; exact this, ((KP.of_ext HE0.out HB.out).trans HK1.out).trans ((KP.of_ext HX5.out (Nat.le_trans HB.out (Nat.le_trans HE0.out.size HK1.out.1.size))).trans HK6.out)⟩
  ·
   have HY := hid hY
   have HW1 := hid (ws_any B b L [117] (by simp; omega))
   clear hY
   go_enter Tryz.func99, Tryz.ntmps99
   go_wp2_with fail
   refine (HW1.out _ HP0.out).mono ?_
   rintro e w1 ⟨rfl, hp1, hk1⟩
   have HP1 := hid hp1
   have HK1 := hid hk1
   have hh1 := hk1.at HH.out hbn (by decide)
   have u1 : w1.cell? ⟨w.heap.size, 1, none⟩ = some (.int .i64 4) := (Lib.cell_of_heap hh1 1).trans rfl
   have HH1 := hid hh1
   have HV2 := hid (hk1.ext HV1.out h0)
   clear hp1 hk1 hh1 o0 o1
   have hl21 := (decN_len 32).1
   obtain ⟨D, hD⟩ : ∃ D, decN 32 = D := ⟨_, rfl⟩
   have HIT := hid (fun w' (hw : Ext w0 w') => itoa_any w' (HT.out.ext hw) 32 (by omega))
   rw [hD] at HIT hl21
   have z1 : ¬ 9223372036854775807 < 3 + (strOf D).size := by rw [strOf_size]; omega
   have e1' : (⟨#[105, 110, 116]⟩ : ByteArray) ++ strOf D = strOf ([105, 110, 116] ++ D) := strOf_app [105, 110, 116] D
   have HWS := hid (ws_any B b (L ++ [117]) ([105, 110, 116] ++ D) (by simp; omega))
   have HR : Hid (((L ++ [117])) ++ ([105, 110, 116] ++ D) = Y) := hid (by rw [← HY.out, ← hD]; simp)
   clear hD hl21
   generalize hDD : [105, 110, 116] ++ D = DD at *
   clear hDD
   go_wp2_with fail
   refine wp_region_held_drew (S := (fun w' => w'.cell? ⟨w.heap.size, 1, none⟩ = some (.int .i64 4))) (by kernel_rfl) u1 (fun hSg85q0 => ?_)
   refine rgT6 0 1 2 3 4 5 ?_
   refine rgC 6 (fun K hK => ?_)
   go_simp
   go_at_call 100
   refine (HIT.out _ (HV2.out).drew).mono ?_
   rintro e w5 ⟨rfl, hx5⟩
   have HX5 := hid hx5.drew_left
   clear hx5
   refine rgK hK (HX5.out.cell u1) (fun hSg85q1 => ?_)
   clear hK K
   refine rgT 7 ?_
   refine rgC 8 (fun K hK => ?_)
   go_simp
   go_at_call 72
   refine (HWS.out _ (HP1.out.kept HX5.out)).mono ?_
   rintro e w6 ⟨rfl, hp6, hk6⟩
   have HP6 := hid hp6
   have HK6 := hid hk6
   clear hp6 hk6
   refine rgK hK ((Lib.cell_of_heap (HK6.out.at (HX5.out.heapAt HH1.out) hbn (by decide)) 1).trans rfl) (fun hSg85q2 => ?_)
   clear hK K
   refine wpAnyH_done (by kernel_rfl) ?_ _
   go_wp2
   go_end0
   exact ⟨rfl, by have := HP6.out; rw [HR.out] at this; exact this, ((KP.of_ext HE0.out HB.out).trans HK1.out).trans ((KP.of_ext HX5.out (Nat.le_trans HB.out (Nat.le_trans HE0.out.size HK1.out.1.size))).trans HK6.out)⟩
end Go.Proofs.YtacmjhcfjhpkeaaGreatDoor

namespace Go.Proofs.YtacmjhcfjhpkeaaGreatDoor
open Go.RowKit Go.Deco
set_option linter.unusedSimpArgs false
set_option linter.unusedVariables false

theorem txt_unk : txtT Ty.unk = [63] := by simp [Ty.unk, txtT]
theorem txt_anyT : txtT Ty.any = [97, 110, 121] := by simp [Ty.any, txtT]
set_option maxRecDepth 100000 in
set_option maxHeartbeats 4000000 in
theorem twrite_any (B b : Nat) (w0 : World) (h0 : w0.heap.size ≤ B) (ht : Tab10 w0) : ∀ (d : Nat) (w : World) (L : List Nat) (t : Ty) (v : Value), TyV d w0 All v t → formT t = true → nodT t ≤ 1000000 → Ext w0 w → PrIs B b L w →
  L.length + (txtT t).length ≤ 900000000 → Calls Tryz.prog 66 #[.pointer (some ⟨b, 0, none⟩), v] w (PrOut (.tuple #[]) B b (L ++ txtT t) w) := by
 intro d
 induction d using Nat.strongRecOn with
 | _ d ih =>
  intro w L t v hv hform hnod hx hp hlen
  obtain ⟨A, na, ca, E, nb, cb, rfl, hE, hF, hk, hs, hc⟩ := hv
  have hla := hE.len
  have hlb := hF.len
  obtain ⟨hac, ham⟩ := hE.cap
  obtain ⟨hbc, hbm⟩ := hF.cap
  obtain ⟨W0, hW0⟩ : ∃ W0, w.alloc (.cells #[.int .i64 t.kind, .int .i64 t.size, .int .i64 t.count, .slice A na ca, .slice E nb cb] 25) = W0 := ⟨_, rfl⟩
  have hE0 : Ext w W0 := by rw [← hW0]; exact (Ext.refl w).alloc _
  have o0 : W0.cell? ⟨w.heap.size, 0, none⟩ = some (.int .i64 t.kind) := by rw [← hW0]; simp [go_sem]
  have o1 : W0.cell? ⟨w.heap.size, 1, none⟩ = some (.int .i64 t.size) := by rw [← hW0]; simp [go_sem]
  have o2 : W0.cell? ⟨w.heap.size, 2, none⟩ = some (.int .i64 t.count) := by rw [← hW0]; simp [go_sem]
  have o3 : W0.cell? ⟨w.heap.size, 3, none⟩ = some (.slice A na ca) := by rw [← hW0]; simp [go_sem]
  have o4 : W0.cell? ⟨w.heap.size, 4, none⟩ = some (.slice E nb cb) := by rw [← hW0]; simp [go_sem]
  have hh : W0.heap[w.heap.size]? = some (.cells #[.int .i64 t.kind, .int .i64 t.size, .int .i64 t.count, .slice A na ca, .slice E nb cb] 25 (0, 0)) := by rw [← hW0]; exact heap_alloc_new w _
  have hbn : w.heap.size ≠ b := by have := hp.lt; omega
  have HB := hid (by have := hp.lt; omega : B ≤ w.heap.size)
  have HX0 := hid hx
  have HX := hid (hx.trans hE0)
  have HP0 := hid (hp.kept hE0)
  have HH := hid hh
  have HE := hid hE
  have HF := hid hF
  have HLA := hid hla
  have HLB := hid hlb
  have HE0 := hid hE0
  have HK0 := hid (KP.of_ext (b := b) hE0 HB.out)
  have HLEN := hid hlen
  have HIH := hid ih
  clear hE hF hla hlb hE0 ih hk hs hc hh hx hlen hp
  rcases formT_cases hform with (rfl | rfl) | ⟨s, hs, (rfl | rfl)⟩ | ⟨x, rfl, hx⟩ | ⟨x, m, rfl, hm1, hm2, hx⟩ | ⟨l, rfl, hl⟩
  ·rw [show txtT Ty.unk = [63] from txt_unk] at *
   simp only [Ty.kind, Ty.size, Ty.count, Ty.unk] at *
   have HW1 := hid (ws_any B b L [63] (by have := HLEN.out; rw [show [63] = [63] from rfl] at this; exact Nat.le_trans this (by decide)))
   rw [show [63] = [63] from rfl]
   go_enter Tryz.func66, Tryz.ntmps66
   go_wp2_with fail
   refine (HW1.out _ HP0.out).mono ?_
   rintro e w1 ⟨rfl, hp1, hk1⟩
   clear o0 o1 o2 o3 o4
   go_wp2
   go_end0
   exact ⟨rfl, hp1, HK0.out.trans hk1⟩
  ·rw [show txtT Ty.any = [97, 110, 121] from txt_anyT] at *
   simp only [Ty.kind, Ty.size, Ty.count, Ty.any] at *
   have HW1 := hid (ws_any B b L [97, 110, 121] (by have := HLEN.out; rw [show [97, 110, 121] = [97, 110, 121] from rfl] at this; exact Nat.le_trans this (by decide)))
   rw [show [97, 110, 121] = [97, 110, 121] from rfl]
   go_enter Tryz.func66, Tryz.ntmps66
   go_wp2_with fail
   refine (HW1.out _ HP0.out).mono ?_
   rintro e w1 ⟨rfl, hp1, hk1⟩
   clear o0 o1 o2 o3 o4
   go_wp2
   go_end0
   exact ⟨rfl, hp1, HK0.out.trans hk1⟩
  ·simp only [Ty.kind, Ty.size, Ty.count, Ty.int] at *
   have HTI := hid (pint_any B b L w0 W0 1 s 0 A na ca E nb cb HP0.out ht HX.out h0 (by decide) hs (by have := HLEN.out; omega))
   go_enter Tryz.func66, Tryz.ntmps66
   go_wp2_with fail
   refine HTI.out.mono ?_
   rintro e w1 ⟨rfl, hp1, hk1⟩
   clear o0 o1 o2 o3 o4
   go_wp2
   go_end0
   exact ⟨rfl, by simpa [txt_int, txt_uint] using hp1, HK0.out.trans hk1⟩
  ·simp only [Ty.kind, Ty.size, Ty.count, Ty.uint] at *
   have HTI := hid (pint_any B b L w0 W0 2 s 0 A na ca E nb cb HP0.out ht HX.out h0 (by decide) hs (by have := HLEN.out; omega))
   go_enter Tryz.func66, Tryz.ntmps66
   go_wp2_with fail
   refine HTI.out.mono ?_
   rintro e w1 ⟨rfl, hp1, hk1⟩
   clear o0 o1 o2 o3 o4
   go_wp2
   go_end0
   exact ⟨rfl, by simpa [txt_int, txt_uint] using hp1, HK0.out.trans hk1⟩
  ·simp only [Ty.kind, Ty.size, Ty.count, Ty.ptr] at *
   have hna : na = 1 := by have := HLA.out; simpa [Ty.elem] using this
   subst hna
   have hnx : nodT x ≤ 1000000 := nod_elem hnod
   obtain ⟨d', bb, off, A1, n1, c1, B1, m1, e1, hd, rfl, hv1, c0, c1', c2, c3, c4⟩ := (HE.out).ty_at (k := 0) (t := x) rfl
   simp only [Nat.zero_mul, Nat.add_zero] at c0 c1' c2 c3 c4
   have hlx : (L ++ [42]).length + (txtT x).length ≤ 900000000 := by have := HLEN.out; rw [txt_ptr] at this; simp at this ⊢; omega
   have HC := hid (fun w' (hw : Ext w0 w') (hp' : PrIs B b (L ++ [42]) w') => HIH.out d' (by omega) w' (L ++ [42]) x _ hv1 hx hnx hw hp' hlx)
   have HW1 := hid (ws_any B b L [42] (by simp at hlx ⊢; omega))
   have HR : Hid ((L ++ [42]) ++ txtT x = L ++ txtT (.mk 3 0 0 [x] [])) := hid (by rw [txt_ptr]; simp)
   clear hd hv1 hform hx hnod hnx hlx
   rw [← HR.out]
   obtain ⟨X, hX⟩ : ∃ X, txtT x = X := ⟨_, rfl⟩
   rw [hX] at HC HR ⊢
   clear hX
   go_enter Tryz.func66, Tryz.ntmps66
   go_wp2_with fail
   refine (HW1.out _ HP0.out).mono ?_
   rintro e w1 ⟨rfl, hp1, hk1⟩
   clear o0 o1 o2 o3 o4
   have HP1 := hid hp1
   have HK1 := hid hk1
   have HX1 := hid (hk1.ext HX.out h0)
   have o3 := (Lib.cell_of_heap (hk1.at HH.out hbn (by decide)) 3).trans rfl
   have c0 := HX1.out.cell c0
   have c1' := HX1.out.cell c1'
   have c2 := HX1.out.cell c2
   have c3 := HX1.out.cell c3
   have c4 := HX1.out.cell c4
   clear hp1 hk1
   go_wp2_with fail
   refine (HC.out _ HX1.out HP1.out).mono ?_
   rintro e w2 ⟨rfl, hp2, hk2⟩
   clear o3 c0 c1' c2 c3 c4
   go_wp2
   go_end0
   exact ⟨rfl, hp2, (HK0.out.trans HK1.out).trans hk2⟩
  ·simp only [Ty.kind, Ty.size, Ty.count, Ty.arr] at *
   have hna : na = 1 := by have := HLA.out; simpa [Ty.elem] using this
   subst hna
   have hnx : nodT x ≤ 1000000 := nod_elem hnod
   obtain ⟨q, rfl⟩ : ∃ q : Nat, m = (q : Int) := ⟨m.toNat, by omega⟩
   obtain ⟨d', bb, off, A1, n1, c1, B1, m1, e1, hd, rfl, hv1, c0, c1', c2, c3, c4⟩ := (HE.out).ty_at (k := 0) (t := x) rfl
   simp only [Nat.zero_mul, Nat.add_zero] at c0 c1' c2 c3 c4
   obtain ⟨D, hD⟩ : ∃ D, decN q = D := ⟨_, rfl⟩
   have hdl : D.length ≤ 21 := by rw [← hD]; exact (decN_len q).1
   have hlx : (L ++ ([91] ++ D ++ [93])).length + (txtT x).length ≤ 900000000 := by have := HLEN.out; rw [txt_arr, show (q : Int).toNat = q from Int.toNat_natCast q, hD] at this; simp at this ⊢; omega
   have HC := hid (fun w' (hw : Ext w0 w') (hp' : PrIs B b (L ++ ([91] ++ D ++ [93])) w') => HIH.out d' (by omega) w' (L ++ ([91] ++ D ++ [93])) x _ hv1 hx hnx hw hp' hlx)
   have HIT := hid (fun w' (hw : Ext w0 w') => itoa_any w' (ht.ext hw) q (by omega))
   rw [hD] at HIT
   have HWS := hid (ws_any B b L ([91] ++ D ++ [93]) (by simp at hlx ⊢; omega))
   have HR : Hid ((L ++ ([91] ++ D ++ [93])) ++ txtT x = L ++ txtT (.mk 4 0 (q : Int) [x] [])) := hid (by rw [txt_arr, show (q : Int).toNat = q from Int.toNat_natCast q, hD]; simp)
   have z1 : ¬ 9223372036854775807 < 1 + (strOf D).size := by rw [strOf_size]; omega
   have z2 : ¬ 9223372036854775807 < (strOf ([91] ++ D)).size + 1 := by rw [strOf_size]; simp; omega
   have e1' : (⟨#[91]⟩ : ByteArray) ++ strOf D = strOf ([91] ++ D) := strOf_app [91] D
   have e2' : strOf ([91] ++ D) ++ (⟨#[93]⟩ : ByteArray) = strOf ([91] ++ D ++ [93]) := strOf_app _ [93]
   obtain ⟨C1, hC1⟩ : ∃ C1, [91] ++ D = C1 := ⟨_, rfl⟩
   rw [hC1] at z2 e1' e2' HC HWS HR
   obtain ⟨C2, hC2⟩ : ∃ C2, C1 ++ [93] = C2 := ⟨_, rfl⟩
   rw [hC2] at e2' HC HWS HR
   rw [← HR.out]
   obtain ⟨X, hX⟩ : ∃ X, txtT x = X := ⟨_, rfl⟩
   rw [hX] at HC HR ⊢
   clear hd hv1 hX hD hC1 hC2 hform hx hnod hnx hdl hlx
   go_enter Tryz.func66, Tryz.ntmps66
   go_wp2_with fail
   refine wp_region_held_drew (S := (fun w' => w'.cell? ⟨w.heap.size, 2, none⟩ = some (.int .i64 q))) (by kernel_rfl) o2 (fun hSg86q0 => ?_)
   refine rgT4 0 1 2 3 ?_
   refine rgT 4 ?_
   refine rgC 5 (fun K hK => ?_)
   go_simp
   go_at_call 100
   refine (HIT.out _ (HX.out).drew).mono ?_
   rintro e w5 ⟨rfl, hx5⟩
   have HX5 := hid hx5.drew_left
   clear hx5
   refine rgK hK (HX5.out.cell o2) (fun hSg86q1 => ?_)
   clear hK K
   refine rgT2 6 7 ?_
   refine rgC 8 (fun K hK => ?_)
   go_simp
   go_at_call 72
   refine (HWS.out _ (HP0.out.kept HX5.out)).mono ?_
   rintro e w6 ⟨rfl, hp6, hk6⟩
   have HP6 := hid hp6
   have HK6 := hid hk6
   clear hp6 hk6
   refine rgK hK ((Lib.cell_of_heap (HK6.out.at (HX5.out.heapAt HH.out) hbn (by decide)) 2).trans rfl) (fun hSg86q2 => ?_)
   clear hK K
   refine wpAnyH_done (by kernel_rfl) ?_ _
   clear o0 o1 o2 o3 o4
   have HX6 := hid (HK6.out.ext (HX.out.trans HX5.out) h0)
   have o3 := (Lib.cell_of_heap (HK6.out.at (HX5.out.heapAt HH.out) hbn (by decide)) 3).trans rfl
   have c0 := HX6.out.cell c0
   have c1' := HX6.out.cell c1'
   have c2 := HX6.out.cell c2
   have c3 := HX6.out.cell c3
   have c4 := HX6.out.cell c4
   go_wp2_with fail
   refine (HC.out _ HX6.out HP6.out).mono ?_
   rintro e w7 ⟨rfl, hp7, hk7⟩
   clear o3 c0 c1' c2 c3 c4
   go_wp2
   go_end0
   exact ⟨rfl, hp7, ((HK0.out.trans (KP.of_ext HX5.out (Nat.le_trans HB.out HE0.out.size))).trans HK6.out).trans hk7⟩
  ·simp only [Ty.kind, Ty.size, Ty.count, Ty.str] at *
   have HFL := hid hl
   have hnl : nodF l ≤ 1000000 := by rw [nodT] at hnod; omega
   have HNL := hid hnl
   have hll : L.length + (123 :: (txtF true l ++ [125])).length ≤ 900000000 := by have := HLEN.out; rw [txt_str] at this; simpa using this
   have HLL := hid hll
   have HW1 := hid (ws_any B b L [123] (by simp at hll ⊢; omega))
   have HR : Hid ((L ++ 123 :: txtF true l) ++ [125] = L ++ txtT (.mk 5 0 0 [] l)) := hid (by rw [txt_str]; simp)
   have HW9 := hid (ws_any B b (L ++ 123 :: txtF true l) [125] (by simp at hll ⊢; omega))
   rw [← HR.out]
   clear hl hform hnod hnl hll HLEN
   go_enter Tryz.func66, Tryz.ntmps66
   go_wp2_with fail
   refine (HW1.out _ HP0.out).mono ?_
   rintro e w1 ⟨rfl, hp1, hk1⟩
   clear o0 o1 o2 o3 o4
   have HP1 := hid hp1
   have HK1 := hid hk1
   have HX1 := hid (hk1.ext HX.out h0)
   have o4 := (Lib.cell_of_heap (hk1.at HH.out hbn (by decide)) 4).trans rfl
   clear hp1 hk1
   go_wp2
   clear o4
   go_loopw [67] (fun i wr => ∃ (k : Nat), k ≤ nb ∧ i = .int .i64 k ∧ Hid (PrIs B b (L ++ 123 :: txtF true (l.take k)) wr) ∧ Hid (KP B b w1 wr)) (fun i _ => nb - (intOf i).toNat)
   case atStart => exact ⟨0, by omega, rfl, hid (by simpa [txtF] using HP1.out), hid KP.refl⟩
   case round =>
    obtain ⟨k, hk, rfl, HPr, HKr⟩ := hrel
    by_cases h1 : k < nb
    ·obtain ⟨x, hx⟩ : ∃ x, l[k]? = some x := ⟨_, List.getElem?_eq_getElem (by have := HLB.out; simp [Ty.fields] at this; omega)⟩
     obtain ⟨d', bb, off, A1, n1, c1, B1, m1, e1, hd, rfl, hv1, -, c0, c1', c2, c3, c4, c5⟩ := HF.out.fd_at hx
     have hxf := formF_all HFL.out x (List.mem_of_getElem? hx)
     have hnx : nodT x.2 ≤ 1000000 := Nat.le_trans (nodF_mem (List.mem_of_getElem? hx)) HNL.out
     have hstep := txtF_snoc hx
     obtain ⟨q, hq⟩ : ∃ q : Nat, x.1 = (q : Int) := ⟨x.1.toNat, by omega⟩
     obtain ⟨D, hD⟩ : ∃ D, decN q = D := ⟨_, rfl⟩
     obtain ⟨C, hC⟩ : ∃ C, L ++ 123 :: txtF true (l.take k) = C := ⟨_, rfl⟩
     rw [hC] at HPr
     obtain ⟨C', hC'⟩ : ∃ C', C ++ (if decide (k = 0) then ([] : List Nat) else [44, 32]) = C' := ⟨_, rfl⟩
     have hR : C' ++ (D ++ [58, 32]) ++ txtT x.2 = L ++ 123 :: txtF true (l.take (k + 1)) := by
      rw [hstep, ← hC', ← hC, txt1, hq, ← hD]
      by_cases h0 : k = 0 <;> simp [h0]
     have htk : (txtF true (l.take (k + 1))).length ≤ (txtF true l).length := by
      have e := txtF_app (l.take (k + 1)) (l.drop (k + 1)) true
      rw [List.take_append_drop] at e
      rw [e, List.length_append]; omega
     have hcl : (C' ++ (D ++ [58, 32])).length + (txtT x.2).length ≤ 900000000 := by
      rw [← List.length_append, hR]
      have := HLL.out
      simp at this ⊢
      omega
     have hll : C.length + 2 ≤ 900000002 := by
      have : C.length ≤ C'.length := by rw [← hC', List.length_append]; omega
      simp at hcl; omega
     have HWC := hid (ws_any B b C [44, 32] (by simp; omega))
     have HC := hid (fun w' (hw : Ext w0 w') (hp' : PrIs B b (C' ++ (D ++ [58, 32])) w') => HIH.out d' (by omega) w' (C' ++ (D ++ [58, 32])) x.2 _ hv1 hxf.2.2 hnx hw hp' hcl)
     have hdl : D.length ≤ 21 := by rw [← hD]; exact (decN_len q).1
     have hqq : q < 1000000000 := by omega
     have HIT := hid (fun w' (hw : Ext w0 w') => itoa_any w' (ht.ext hw) q hqq)
     rw [hD] at HIT
     have HWS := hid (ws_any B b C' (D ++ [58, 32]) (by simp at hcl ⊢; omega))
     have z1 : ¬ 9223372036854775807 < (strOf D).size + 2 := by rw [strOf_size]; omega
     have e1' : strOf D ++ (⟨#[58, 32]⟩ : ByteArray) = strOf (D ++ [58, 32]) := strOf_app D [58, 32]
     obtain ⟨X, hX⟩ : ∃ X, txtT x.2 = X := ⟨_, rfl⟩
     rw [hX] at HC hR
     obtain ⟨C1, hC1⟩ : ∃ C1, D ++ [58, 32] = C1 := ⟨_, rfl⟩
     rw [hC1] at e1' HC HWS hR
     have HR := hid hR
     have HCC := hid hC'
     rw [hq] at c0
     have HXr := hid (HKr.out.ext HX1.out h0)
     have c0 := HXr.out.cell c0
     have c1' := HXr.out.cell c1'
     have c2 := HXr.out.cell c2
     have c3 := HXr.out.cell c3
     have c4 := HXr.out.cell c4
     have c5 := HXr.out.cell c5
     have hkn : (k : Int) < (nb : Int) := by omega
     clear hd hv1 hX hD hC hC' hC1 hxf hx hnx hcl hdl hqq hq hstep hR htk hll
     go_upto_if 73 with fail
     obtain ⟨Wb, hWb⟩ : ∃ Wb, wr.alloc (.cells #[.int .i64 q, .int .i64 x.2.kind, .int .i64 x.2.size, .int .i64 x.2.count, .slice A1 n1 c1, .slice B1 m1 e1] 48) = Wb := ⟨_, rfl⟩
     rw [hWb]
     have hEb : Ext wr Wb := by rw [← hWb]; exact (Ext.refl wr).alloc _
     have hfb : Wb.heap[wr.heap.size]? = some (.cells #[.int .i64 q, .int .i64 x.2.kind, .int .i64 x.2.size, .int .i64 x.2.count, .slice A1 n1 c1, .slice B1 m1 e1] 48 (0, 0)) := by rw [← hWb]; exact heap_alloc_new wr _
     have hbf : wr.heap.size ≠ b := by have := HPr.out.lt; omega
     have HFB := hid hfb
     have HPb := hid (HPr.out.kept hEb)
     have HKb := hid (KP.of_ext (b := b) hEb (by have := HPr.out.lt; omega : B ≤ wr.heap.size))
     have HXb := hid (HXr.out.trans hEb)
     clear hWb hEb hfb c0 c1' c2 c3 c4 c5
     go_cut [5] from 73 to 77 (fun s wx => s = .int .i64 k ∧ Hid (PrIs B b C' wx) ∧ Hid (KP B b Wb wx))
     case first =>
      by_cases h0 : k = 0
      ·have g0 : decide ((k : Int) > 0) = false := decide_eq_false (by omega)
       have g1 : ¬ (k : Int) > 0 := by omega
       have g2 : ¬ 0 < k := by omega
       have hcc : C = C' := by rw [← HCC.out, h0]; simp
       have HP := hid (by rw [← hcc]; exact HPb.out : PrIs B b C' Wb)
       clear h0 hcc
       go_wp2
       go_meet
       exact ⟨rfl, HP, hid KP.refl⟩
      ·have g0 : decide ((k : Int) > 0) = true := decide_eq_true (by omega)
       have g1 : (k : Int) > 0 := by omega
       have g2 : 0 < k := by omega
       have hcc : C ++ [44, 32] = C' := by rw [← HCC.out]; simp [h0]
       rw [hcc] at HWC
       clear h0 hcc
       go_wp2_with fail
       refine (HWC.out _ HPb.out).mono ?_
       rintro e w2 ⟨rfl, hp2, hk2⟩
       have HP2 := hid hp2
       have HK2 := hid hk2
       clear hp2 hk2
       go_wp2
       go_meet
       exact ⟨rfl, HP2, HK2⟩
     case rest =>
      obtain ⟨rfl, HPx, HKx⟩ := hcut
      have HXx := hid (HKx.out.ext HXb.out h0)
      have HFx := hid (HKx.out.at HFB.out hbf (by decide))
      have f0 := (Lib.cell_of_heap HFx.out 0).trans rfl
      go_wp2_with fail
      refine wp_region_held_drew (S := (fun w' => w'.cell? ⟨wr.heap.size, 0, none⟩ = some (.int .i64 q))) (by kernel_rfl) f0 (fun hSg87q0 => ?_)
      refine rgT4 0 1 2 3 ?_
      refine rgT 4 ?_
      refine rgC 5 (fun K hK => ?_)
      go_simp
      go_at_call 100
      refine (HIT.out _ (HXx.out).drew).mono ?_
      rintro e w5 ⟨rfl, hx5⟩
      have HX5 := hid hx5.drew_left
      clear hx5
      refine rgK hK (HX5.out.cell f0) (fun hSg87q1 => ?_)
      clear hK K
      refine rgT 6 ?_
      refine rgC 7 (fun K hK => ?_)
      go_simp
      go_at_call 72
      refine (HWS.out _ (HPx.out.kept HX5.out)).mono ?_
      rintro e w6 ⟨rfl, hp6, hk6⟩
      have HP6 := hid hp6
      have HK6 := hid hk6
      clear hp6 hk6
      refine rgK hK ((Lib.cell_of_heap (HK6.out.at (HX5.out.heapAt HFx.out) hbf (by decide)) 0).trans rfl) (fun hSg87q2 => ?_)
      clear hK K
      refine wpAnyH_done (by kernel_rfl) ?_ _
      clear f0
      have HX6 := hid (HK6.out.ext (HXx.out.trans HX5.out) h0)
      have HF6 := hid (HK6.out.at (HX5.out.heapAt HFx.out) hbf (by decide))
      have f1 := (Lib.cell_of_heap HF6.out 1).trans rfl
      have f2 := (Lib.cell_of_heap HF6.out 2).trans rfl
      have f3 := (Lib.cell_of_heap HF6.out 3).trans rfl
      have f4 := (Lib.cell_of_heap HF6.out 4).trans rfl
      have f5 := (Lib.cell_of_heap HF6.out 5).trans rfl
      go_wp2_with fail
      refine (HC.out _ HX6.out HP6.out).mono ?_
      rintro e w7 ⟨rfl, hp7, hk7⟩
      have HP7 := hid hp7
      have HK7 := hid hk7
      clear hp7 hk7 f1 f2 f3 f4 f5
      rw [HR.out] at HP7
      have hxb := HKx.out.1.size
      go_wp2
      first
       | go_roundw
       | refine ⟨?rel, ?measure⟩
      case rel => exact ⟨k + 1, by omega, by go_num, HP7, hid ((((HKr.out.trans HKb.out).trans HKx.out).trans (KP.of_ext HX5.out (by have := HPx.out.lt; omega))).trans (HK6.out.trans HK7.out))⟩
      case measure => simp [intOf]; omega
    ·have hkn : ¬ (k : Int) < (nb : Int) := by omega
     obtain rfl : k = nb := by omega
     rw [List.take_of_length_le (by have := HLB.out; simp [Ty.fields] at this; omega)] at HPr
     clear h1
     go_wp2_with fail
     refine (HW9.out _ HPr.out).mono ?_
     rintro e w9 ⟨rfl, hp9, hk9⟩
     go_wp2
     go_end0
     exact ⟨rfl, hp9, (HK0.out.trans (HK1.out.trans HKr.out)).trans hk9⟩
end Go.Proofs.YtacmjhcfjhpkeaaGreatDoor

namespace Go.Proofs.YtacmjhcfjhpkeaaGreatDoor
open Go.RowKit Go.Deco
set_option linter.unusedSimpArgs false
set_option linter.unusedVariables false
theorem txt_ne : ∀ (t : Ty), txtT t ≠ []
 | .mk k s c e f => by
  rw [txtT]
  repeat' split
  all_goals simp
theorem print_any (d : Nat) (w : World) (t : Ty) (v : Value) (hv : TyV d w All v t) (hn : nodT t ≤ 1000000) (ht : Tab10 w) : Calls Tryz.prog 34 #[v] w (StrIs w (printT t)) := by
 have HV := hid hv
 obtain ⟨A, na, ca, E, nb, cb, rfl, -⟩ := hv
 obtain ⟨W0, hW0⟩ : ∃ W0, w.alloc (.cells #[.int .i64 t.kind, .int .i64 t.size, .int .i64 t.count, .slice A na ca, .slice E nb cb] 25) = W0 := ⟨_, rfl⟩
 have hE0 : Ext w W0 := by rw [← hW0]; exact (Ext.refl w).alloc _
 have o0 : W0.cell? ⟨w.heap.size, 0, none⟩ = some (.int .i64 t.kind) := by rw [← hW0]; simp [go_sem]
 have o1 : W0.cell? ⟨w.heap.size, 1, none⟩ = some (.int .i64 t.size) := by rw [← hW0]; simp [go_sem]
 have o2 : W0.cell? ⟨w.heap.size, 2, none⟩ = some (.int .i64 t.count) := by rw [← hW0]; simp [go_sem]
 have o3 : W0.cell? ⟨w.heap.size, 3, none⟩ = some (.slice A na ca) := by rw [← hW0]; simp [go_sem]
 have o4 : W0.cell? ⟨w.heap.size, 4, none⟩ = some (.slice E nb cb) := by rw [← hW0]; simp [go_sem]
 have HE0 := hid hE0
 clear hE0
 have HC := hid (good_any d W0 t _ (HV.out.ext HE0.out))
 obtain ⟨z, hz⟩ : ∃ z, goodT t = z := ⟨_, rfl⟩
 rw [hz] at HC
 have HZ := hid hz
 obtain ⟨R, hR⟩ : ∃ R, printT t = R := ⟨_, rfl⟩
 rw [hR]
 have HR := hid hR
 have HN := hid hn
 have HT := hid ht
 clear hz hR hn ht
 go_enter Tryz.func34, Tryz.ntmps34
 go_wp2_with fail
 refine (HC.out).mono ?_
 rintro e w1 ⟨rfl, hx1⟩
 have HX1 := hid (HE0.out.trans hx1)
 have o0 := hx1.cell o0
 have o1 := hx1.cell o1
 have o2 := hx1.cell o2
 have o3 := hx1.cell o3
 have o4 := hx1.cell o4
 clear hx1 hW0
 cases z with
 | false =>
  obtain rfl : R = [] := by rw [← HR.out, printT, HZ.out]; rfl
  clear HC
  go_wp2
  go_ret
  exact ⟨rfl, HX1.out⟩
 | true =>
  obtain rfl : R = txtT t := by rw [← HR.out, printT, HZ.out]; rfl
  clear HC
  have hlt : w.heap.size < w1.heap.size := Nat.lt_of_lt_of_le (by have := World.block_lt_of_cell? _ _ o0; exact this) (Nat.le_refl _)
  go_upto_region 4 with fail
  obtain ⟨W2, hW2⟩ : ∃ W2, w1.alloc (.cells #[.pointer none, .slice none 0 0] 88) = W2 := ⟨_, rfl⟩
  rw [hW2]
  have hE2 : Ext w1 W2 := by rw [← hW2]; exact (Ext.refl w1).alloc _
  have hP2 : PrIs w1.heap.size w1.heap.size [] W2 := by rw [← hW2]; exact Lib.IsBuilderF.of (Lib.fresh_isBuilder _ _ w1)
  have HE2 := hid hE2
  have HP2 := hid hP2
  have HWR := hid (twrite_any w1.heap.size w1.heap.size w1 (Nat.le_refl _) (HT.out.ext HX1.out) d W2 [] t _ (HV.out.ext HX1.out) (goodT_iff.1 HZ.out).2.1 HN.out HE2.out HP2.out (by have := txt_len t; have := HN.out; simp; omega))
  have o0 := hE2.cell o0
  have o1 := hE2.cell o1
  have o2 := hE2.cell o2
  have o3 := hE2.cell o3
  have o4 := hE2.cell o4
  have HLT := hid hlt
  clear hW2 hE2 hP2 hlt
  go_wp2_with fail
  refine HWR.out.mono ?_
  rintro e w3 ⟨rfl, hp3, hk3⟩
  rw [List.nil_append] at hp3
  have HP3 := hid hp3
  have HX3 := hid (HX1.out.trans (hk3.ext HE2.out (Nat.le_refl _)))
  have HLN := hid (by have := hp3.lt; exact this.2 : w1.heap.size < w3.heap.size)
  have HBS := hid (bstr_any w1.heap.size w1.heap.size (txtT t) w3 HP3.out (txt_ne t))
  clear hp3 hk3 o0 o1 o2 o3 o4
  go_wp2_with fail
  refine HBS.out.mono ?_
  rintro e w4 ⟨rfl, hb4⟩
  have HX4 := hid (Below.trans HX3.out (hb4.mono (Nat.le_of_lt HLT.out)))
  clear hb4
  go_wp2
  go_ret
  exact ⟨rfl, HX4.out⟩
end Go.Proofs.YtacmjhcfjhpkeaaGreatDoor
