/- decompilerref45.Minimize; CoverageMinimize: the law's walk. -/
import Derived.Test.YtcddmggefmfkkaaMinS
namespace Go.Proofs.Ytcddmggefmfkkaa
open Go.RowKit Go.Deco
set_option linter.unusedSimpArgs false
set_option linter.unusedVariables false

theorem not_in {w : World} {b k0 : Nat} {v v0 : Value} {l : List Nat} (h : Sl u32R w All v l) (h0 : w.cell? ⟨b, 0, none⟩ = some v0) (hv0 : ∀ x : Int, v0 ≠ .int .u32 x) (h1 : w.cell? ⟨b, 1, none⟩ = some (.int .i64 k0)) (hn : ∀ i, 2 ≤ i → w.cell? ⟨b, i, none⟩ = none) : Sl u32R w (fun d => d ≠ b) v l := by
  obtain ⟨A, c, rfl, e1, e2, e3, e4⟩ := h
  refine ⟨A, c, rfl, e1, e2, e3, fun hl => ?_⟩
  obtain ⟨b', off, rfl, _, hc⟩ := e4 hl
  refine ⟨b', off, rfl, ?_, hc⟩
  rintro rfl
  obtain ⟨e0, l0, rfl⟩ := List.exists_cons_of_ne_nil hl
  obtain ⟨cs, ⟨hcs, _⟩, hcell⟩ := hc 0 e0 rfl
  subst hcs
  have hx := hcell 0 _ rfl
  have hx : w.cell? ⟨b', off, none⟩ = some (.int .u32 e0) := by simpa using hx
  rcases Nat.lt_or_ge off 2 with ho | ho
  · have : off = 0 ∨ off = 1 := by omega
    rcases this with rfl | rfl
    · rw [h0] at hx
      injection hx with hx
      exact hv0 _ hx
    · rw [h1] at hx
      cases hx
  · rw [hn off ho] at hx
    cases hx
/-- The minimizer's box. -/
structure RX (b : Nat) (w0 wr : World) (A : Option Addr) (c : Nat) (M : List Nat) (k : Nat) : Prop where
  ext : Ext w0 wr
  x0 : wr.cell? ⟨b, 0, none⟩ = some (.slice A M.length c)
  x1 : wr.cell? ⟨b, 1, none⟩ = some (.int .i64 k)
  xn : ∀ i, 2 ≤ i → wr.cell? ⟨b, i, none⟩ = none
  fx : ∀ i, wr.frozen? ⟨b, i, none⟩ = false
  base : w0.heap.size ≤ b
  sl : Sl u32R wr (fun d => d ≠ b) (.slice A M.length c) M
theorem RX.lt {b : Nat} {w0 wr : World} {A : Option Addr} {c : Nat} {M : List Nat} {k : Nat} (h : RX b w0 wr A c M k) : b < wr.heap.size := by have := World.block_lt_of_cell? _ _ h.x0; exact this
theorem RX.ext2 {b : Nat} {w0 wr w' : World} {A : Option Addr} {c : Nat} {M : List Nat} {k : Nat} (h : RX b w0 wr A c M k) (he : Ext wr w') : RX b w0 w' A c M k where
  ext := h.ext.trans he
  x0 := he.cell h.x0
  x1 := he.cell h.x1
  xn i hi := (World.cell?_of_block (a := ⟨b, i, none⟩) (he.block h.lt)).trans (h.xn i hi)
  fx i := (he.frozen (p := ⟨b, i, none⟩) h.lt).trans (h.fx i)
  base := h.base
  sl := h.sl.ext he
theorem RX.put {b : Nat} {w0 wr : World} {A A' : Option Addr} {c c' : Nat} {M M' : List Nat} {k : Nat} (h : RX b w0 wr A c M k) (k' : Nat) (hs : Sl u32R wr (fun d => d ≠ b) (.slice A' M'.length c') M') :
    RX b w0 ((wr.setCell ⟨b, 0, none⟩ (.slice A' M'.length c')).setCell ⟨b, 1, none⟩ (.int .i64 k')) A' c' M' k' where
  ext := (h.ext.setCell h.base _).setCell h.base _
  x0 := (World.cell?_setCell_other _ _ _ _ (by simp)).trans (World.cell?_setCell_same' _ _ _ (by rw [h.x0]; rfl))
  x1 := World.cell?_setCell_same' _ _ _ (by rw [World.cell?_setCell_other _ _ _ _ (by simp), h.x1]; rfl)
  xn i hi := (World.cell?_setCell_other _ _ _ _ (fun e => by injection e; omega)).trans ((World.cell?_setCell_other _ _ _ _ (fun e => by injection e; omega)).trans (h.xn i hi))
  fx i := by rw [World.frozen?_setCell, World.frozen?_setCell]; exact h.fx i
  base := h.base
  sl := hs.keep fun d hd _ => by rw [Below.heap_setCell _ _ _ d hd, Below.heap_setCell _ _ _ d hd]
/-- What the reference hands back: the list, the calls. -/
def RMin (w : World) (R : List Nat) (e : Ending) (w' : World) : Prop := Ext w w' ∧ ∃ A c k, e = .returned (.tuple #[.slice A R.length c, .int .i64 k]) ∧ Sl u32R w' All (.slice A R.length c) R

set_option maxRecDepth 100000 in
set_option maxHeartbeats 4000000 in
theorem rminimize_any (w : World) (q : Rl) (A : Option Addr) (n c : Nat) (l : List Nat) (hl : Sl u32R w All (.slice A n c) l) (hn : n ≤ 1000) :
    Calls Try.prog 23 #[.slice A n c, .agg #[.int .u32 q.least, .int .i64 q.count, .bool q.pair]] w (RMin w (minimizeM (failsB q) l).1) := by
  obtain ⟨P, hP⟩ : ∃ P, failsB q = P := ⟨_, rfl⟩
  rw [hP]
  have HP := hid hP
  obtain ⟨T, hT⟩ : ∃ T, minimizeM P l = T := ⟨_, rfl⟩
  rw [hT]
  have HT := hid hT
  have hln := hl.len
  subst hln
  obtain ⟨hnc, hcm⟩ := hl.cap
  obtain ⟨W0, hW0⟩ : ∃ W0, w.alloc (.cells #[.int .u32 q.least, .int .i64 q.count, .bool q.pair] 43) = W0 := ⟨_, rfl⟩
  have hE0 : Ext w W0 := by rw [← hW0]; exact (Ext.refl w).alloc _
  have hs0 : W0.heap.size = w.heap.size + 1 := by rw [← hW0]; simp
  have HQ0 : Hid (QB w.heap.size q W0) := hid ⟨by rw [← hW0]; simp [go_sem], by rw [← hW0]; simp [go_sem], by rw [← hW0]; simp [go_sem]⟩
  have HE0 := hid hE0
  have HS0 := hid hs0
  have HL := hid ((hl.ext hE0).mono (S' := fun b => b < W0.heap.size) fun b _ h => h.lt)
  obtain ⟨i0, hi, hz0, hz1, hz2⟩ := info_parts info_w32
  have HI := hid hi
  have HZ0 := hid hz0
  have HZ1 := hid hz1
  have HZ2 := hid hz2
  have hn1 : l.length ≤ 1000 := hn
  clear hl hE0 hs0 hP hT hi hz0 hz1 hz2
  go_enter Try.func23, Try.ntmps23
  go_upto_region 2 with (first
    | (at_builtin; refine wpList_appS rfl (.tmp 8) (.tmp 9) 23 rfl W0.heap.size 36 i0 _ 1 4 Try.underlying23 HI.out HZ0.out HZ1.out HZ2.out rfl u32R rfl _ [] rfl (OwnS.fresh0 (T := All) W0 (Nat.le_refl _)) A l.length c l (fun b => b < W0.heap.size) rfl (HL.out.ext ((Ext.refl W0).alloc _)) (fun _ hb _ => ⟨trivial, own_ne hb⟩) (by simp; omega) (by simp; omega) (by simp) ?_; intro A3 c3 w3 hown3 hg3 hloc; have HO3 : Hid (OwnS u32R w3 W0.heap.size 36 All (.slice A3 l.length c3) l) := hid (by simpa using hown3); clear hown3; have HX3 := hid (((Ext.refl W0).alloc _).grown hg3 (fun k hk => by rw [own_at hk]; simp)); clear hg3 hloc; simp only [List.length_nil, Nat.zero_add])
    | fail)
  obtain ⟨W4, hW4⟩ : ∃ W4, w3.alloc (.cells #[.slice A3 l.length c3, .int .i64 1] 76) = W4 := ⟨_, rfl⟩
  try rw [hW4]
  have hE4 : Ext w3 W4 := by rw [← hW4]; exact (Ext.refl w3).alloc _
  obtain ⟨b, hb⟩ : ∃ b, w3.heap.size = b := ⟨_, rfl⟩
  obtain ⟨qb, hqb⟩ : ∃ qb, w.heap.size = qb := ⟨_, rfl⟩
  have hlb : ∀ d, W0.heap.size ≤ d → True := fun _ _ => trivial
  have HX04 := hid ((HE0.out.trans HX3.out).trans hE4)
  have HR4 : Hid (RX b w W4 A3 c3 l 1) := hid {
    ext := HX04.out
    x0 := by rw [← hW4, ← hb]; simp [go_sem]
    x1 := by rw [← hW4, ← hb]; simp [go_sem]
    xn := fun i hi => by rw [← hW4, ← hb, World.cell?_alloc_new]; simp; omega
    fx := fun i => by rw [← hW4, ← hb]; simp [go_sem]
    base := by rw [← hb]; exact (HE0.out.trans HX3.out).size
    sl := (HO3.out.sl.mono (S' := fun d => d ≠ b) (fun d _ hc => by have := hc.lt; omega)).ext hE4 }
  have HQ4 := hid ((HQ0.out.ext HX3.out).ext hE4)
  have HL4 := hid ((HL.out.all.ext HX3.out).ext hE4)
  rw [hqb] at HQ4
  try rw [hb]
  try rw [hqb]
  clear hW4 hE4 hlb hb
  have hq0 := HQ4.out.q0
  have hq1 := HQ4.out.q1
  have hq2 := HQ4.out.q2
  have x0 := HR4.out.x0
  have x1 := HR4.out.x1
  clear hqb hW0
  go_wp2_with fail
  refine (fails_lit W4 q.least q.count q.pair All A l.length c l HL4.out).mono ?_
  rintro e w5 ⟨rfl, hx5⟩
  obtain ⟨r, hr⟩ : ∃ r, P l = r := ⟨_, rfl⟩
  rw [show failsB ⟨q.least, q.count, q.pair⟩ l = r from (congrFun HP.out l).trans hr]
  have HR5 := hid (HR4.out.ext2 hx5)
  have HQ5 := hid (HQ4.out.ext hx5)
  have HR := hid hr
  clear hx5 hr hq0 hq1 hq2 x0 x1
  have x0 := HR5.out.x0
  have x1 := HR5.out.x1
  cases r with
  | false =>
    have hTe : T.1 = l := by rw [← HT.out, minimizeM, if_neg (by rw [HR.out]; simp)]
    have HTE := hid hTe
    clear hTe
    go_wp2
    go_ret2
    refine ⟨HR5.out.ext, A3, c3, 1, ?_, ?_⟩
    · rw [HTE.out]; simp
    · rw [HTE.out]; exact HR5.out.sl.all
  | true =>
    have HT1 := hid (show T = minM P 1000 l 999 by rw [← HT.out, minimizeM, if_pos HR.out])
    go_wp2_with fail
    clear x0 x1
    go_loopw [7] (fun _ wr => ∃ (A : Option Addr) (c : Nat) (M : List Nat) (cl : Nat), M.length ≤ 1000 ∧ cl ≤ 1000 ∧ Hid (RX b w wr A c M cl) ∧ Hid (QB qb q wr) ∧ Hid (∃ f, 1000 - cl ≤ f ∧ T = minM P f M (1000 - cl))) (fun _ wr => 1000 - boxK b wr)
    case atStart => exact ⟨A3, c3, l, 1, hn1, by omega, HR5, HQ5, hid ⟨1000, by omega, HT1.out⟩⟩
    case round =>
      obtain ⟨A1, c1, M, cl, hM, hcl, HRX, HQX, HF⟩ := hrel
      have x0 := HRX.out.x0
      have x1 := HRX.out.x1
      by_cases hc : cl < 1000
      · obtain ⟨f, hf, hTf⟩ := HF.out
        obtain ⟨f', rfl⟩ : ∃ f', f = f' + 1 := ⟨f - 1, by omega⟩
        have HTF := hid hTf
        obtain ⟨R, hR⟩ : ∃ R, (roundM P M (1000 - cl)).1 = R := ⟨_, rfl⟩
        obtain ⟨cl2, hcl2⟩ : ∃ cl2, 1000 - (roundM P M (1000 - cl)).2 = cl2 := ⟨_, rfl⟩
        have hle := roundM_le P M (1000 - cl)
        have hRl : R.length ≤ 1000 := by rw [← hR]; omega
        have hl2 : (roundM P M (1000 - cl)).2 = 1000 - cl2 := by omega
        have hc2 : cl2 ≤ 1000 := by omega
        have HRR := hid hR
        have HL2 := hid hl2
        have hra := round_any wr q A1 M.length c1 M HRX.out.sl.all hM cl hcl
        rw [HP.out, hR, hcl2] at hra
        have HRA := hid hra
        have hq0 := HQX.out.q0
        have hq1 := HQX.out.q1
        have hq2 := HQX.out.q2
        have hcap := HRX.out.sl.cap
        obtain ⟨hcap1, hcap2⟩ := hcap
        clear hTf hR hcl2 hle hl2 hra
        go_wp2_with fail
        refine HRA.out.mono ?_
        rintro e w6 ⟨hx6, A6, c6, rfl, hs6⟩
        have HR6 := hid (HRX.out.ext2 hx6)
        have HQ6 := hid (HQX.out.ext hx6)
        have HS6 := hid (not_in hs6 HR6.out.x0 (fun x => by simp) HR6.out.x1 HR6.out.xn)
        have HP7 := hid (HR6.out.put cl2 HS6.out)
        obtain ⟨W7, hW7⟩ : ∃ W7, (w6.setCell ⟨b, 0, none⟩ (.slice A6 R.length c6)).setCell ⟨b, 1, none⟩ (.int .i64 cl2) = W7 := ⟨_, rfl⟩
        have HSM := hid (HR6.out.sl.keep (w' := W7) (fun d hd _ => by rw [← hW7, Below.heap_setCell _ _ _ d hd, Below.heap_setCell _ _ _ d hd]))
        have hqne : qb ≠ b := fun e => by have h1 := HQX.out.q0; have h2 := HRX.out.x0; rw [e, h2] at h1; cases h1
        have HQ7 := hid (HQ6.out.same (w' := W7) (by rw [← hW7, Below.heap_setCell _ _ _ qb hqne, Below.heap_setCell _ _ _ qb hqne]))
        rw [hW7] at HP7
        have x0 := HR6.out.x0
        have x1 := HR6.out.x1
        have fx0 := HR6.out.fx 0
        have fx1 := HR6.out.fx 1
        clear hx6 hs6 hq0 hq1 hq2 hqne
        go_upto_region 7 with (fail)
        try rw [hW7]
        clear hW7 x0 x1 fx0 fx1
        have x0 := HP7.out.x0
        have x1 := HP7.out.x1
        go_wp2_with fail
        refine (words_any W7 W7 (Ext.refl _) A1 A6 M.length R.length c1 c6 M R HSM.out.all HP7.out.sl.all).mono ?_
        rintro e w8 ⟨rfl, hx8⟩
        have HP8 := hid (HP7.out.ext2 hx8)
        have HQ8 := hid (HQ7.out.ext hx8)
        clear hx8 x0 x1
        have x0 := HP8.out.x0
        have x1 := HP8.out.x1
        by_cases hMR : M = R
        · have hTe : T.1 = R := by rw [HTF.out, minM_same (by rw [HRR.out, hMR]), HRR.out]
          have HTE := hid hTe
          rw [decide_eq_true hMR]
          clear hTe
          go_wp2
          go_quiet (fail)
          go_wp2
          go_ret2
          have h8 := HP8.out
          refine ⟨h8.ext.drewN _, A6, c6, cl2, ?_, ?_⟩
          · rw [HTE.out]; simp
          · rw [HTE.out]; exact h8.sl.all.ext ((Ext.refl _).drewN _)
        · have hne : (roundM P M (1000 - cl)).1 ≠ M := fun e => hMR (by rw [← HRR.out, e])
          have hlt := roundM_less hne
          have HN := hid (show ∃ f, 1000 - cl2 ≤ f ∧ T = minM P f R (1000 - cl2) from ⟨f', by rw [← HL2.out]; omega, by rw [HTF.out, minM_go hne, HRR.out, HL2.out]⟩)
          have hlt2 : cl < cl2 := by have := HL2.out; omega
          rw [decide_eq_false hMR]
          clear hne hlt
          go_wp2
          first
            | go_roundw
            | refine ⟨?rel, ?measure⟩
          case rel => exact ⟨A6, c6, R, cl2, hRl, hc2, HP8, HQ8, HN⟩
          case measure => rw [boxK_of HP8.out.x1, boxK_of HRX.out.x1]; omega
      · obtain rfl : cl = 1000 := by omega
        have hTe : T.1 = M := by
          obtain ⟨f, _, h⟩ := HF.out
          rw [h, minM_zero]
        have HTE := hid hTe
        clear hTe
        go_wp2
        go_quiet (fail)
        go_wp2
        go_ret2
        have h8 := HRX.out
        refine ⟨h8.ext.drewN _, A1, c1, 1000, ?_, ?_⟩
        · rw [HTE.out]; simp
        · rw [HTE.out]; exact h8.sl.all.ext ((Ext.refl _).drewN _)

set_option maxRecDepth 100000 in
set_option maxHeartbeats 4000000 in
theorem minlaw_any (w : World) (A : Option Addr) (n c : Nat) (l : List Nat) (hl : Sl u32R w All (.slice A n c) l) (q : Rl) :
    Calls Try.prog 6 #[.slice A n c, .agg #[.int .u32 q.least, .int .i64 q.count, .bool q.pair]] w (OneBool w true) := by
  obtain ⟨hnc, hcm⟩ := hl.cap
  have hln := hl.len
  obtain ⟨W0, hW0⟩ : ∃ W0, w.alloc (.cells #[.int .u32 q.least, .int .i64 q.count, .bool q.pair] 43) = W0 := ⟨_, rfl⟩
  have hE0 : Ext w W0 := by rw [← hW0]; exact (Ext.refl w).alloc _
  have HQ0 : Hid (QB w.heap.size q W0) := hid ⟨by rw [← hW0]; simp [go_sem], by rw [← hW0]; simp [go_sem], by rw [← hW0]; simp [go_sem]⟩
  have HE0 := hid hE0
  have HL := hid (hl.ext hE0)
  have HLN := hid hln
  clear hl hE0 hln
  by_cases h12 : n > 12
  · have h12' : (n : Int) > 12 := by omega
    go_enter Try.func6, Try.ntmps6
    go_wp2_with fail
    refine (example_any _).mono ?_
    rintro e wz ⟨rfl, hxz⟩
    have HXZ := hid hxz; clear hxz
    go_wp2
    go_ret
    exact ⟨by simp, HE0.out.trans HXZ.out⟩
  · have h12' : ¬ ((n : Int) > 12) := by omega
    have hn12 : n ≤ 12 := by omega
    obtain ⟨M, hM⟩ : ∃ M, (minimizeM (failsB q) l).1 = M := ⟨_, rfl⟩
    have HM := hid hM
    clear hM h12
    go_enter Try.func6, Try.ntmps6
    go_wp2_with fail
    clear hW0
    refine (minimize_any none _ 21 _ (failsB q) _ (minFails w.heap.size q) W0 A n c l (HL.out.mono (fun b hb _ => by simp)) (by omega) HQ0.out).mono ?_
    rw [HM.out]
    rintro e w2 ⟨hg2, hj2, A2, c2, rfl, hs2⟩
    have hx2 : Ext W0 w2 := (Ext.refl W0).grown hg2 (fun k h => by cases h)
    have HX2 := hid hx2
    have HS2 := hid hs2.all
    have hq0 := hj2.q0
    have hq1 := hj2.q1
    have hq2 := hj2.q2
    clear hg2 hj2 hs2 hx2
    go_wp2_with fail
    refine (rminimize_any w2 q A n c l (HL.out.ext HX2.out) (by omega)).mono ?_
    rw [HM.out]
    rintro e w3 ⟨hx3, A3, c3, k3, rfl, hs3⟩
    have HX3 := hid hx3
    have HS3 := hid hs3
    clear hx3 hs3 hq0 hq1 hq2
    go_wp2_with fail
    refine (words_any w3 w3 (Ext.refl _) A2 A3 M.length M.length c2 c3 M M (HS2.out.ext HX3.out) HS3.out).mono ?_
    rintro e w4 ⟨rfl, hx4⟩
    rw [show decide (M = M) = true by simp]
    have HX4 := hid (HX2.out.trans (HX3.out.trans hx4))
    clear hx4
    go_wp2_with fail
    refine (minimize_nil w4 A n c l (HL.out.ext HX4.out) (by omega)).mono ?_
    rintro e w5 ⟨hx5, A5, c5, rfl, hs5⟩
    have HX5 := hid hx5
    have HS5 := hid hs5
    clear hx5 hs5
    go_wp2_with fail
    refine (words_any w5 w5 (Ext.refl _) A5 A l.length n c5 c l l HS5.out ((HL.out.ext HX4.out).ext HX5.out)).mono ?_
    rintro e w6 ⟨rfl, hx6⟩
    rw [show decide (l = l) = true by simp]
    have HX6 := hid hx6
    clear hx6
    go_wp2_with fail
    refine (example_any _).mono ?_
    rintro e wz ⟨rfl, hxz⟩
    have HXZ := hid hxz; clear hxz
    go_wp2
    go_ret
    exact ⟨by simp, HE0.out.trans (HX4.out.trans (HX5.out.trans (HX6.out.trans HXZ.out)))⟩
end Go.Proofs.Ytcddmggefmfkkaa
