/- decompilerref45.Merge. -/
import Derived.Test.YtcddmggefmfkkaaMrgA
import Derived.Test.YtcddmggefmfkkaaStA
namespace Go.Proofs.Ytcddmggefmfkkaa
open Go.RowKit Go.Deco
set_option linter.unusedSimpArgs false
set_option linter.unusedVariables false

/-! ### the plain law -/
def hitsM (b1 : List Nat) (h1 : List Int) (b2 : List Nat) (h2 : List Int) (a : Nat) : Nat := capH (tot (pairs b1 h1) a) + capH (tot (pairs b2 h2) a)
def mrgB (b1 : List Nat) (h1 : List Int) (b2 : List Nat) (h2 : List Int) : List Nat := asc ((b1 ++ b2).filter fun a => decide (0 < hitsM b1 h1 b2 h2 a))
def mrgH (b1 : List Nat) (h1 : List Int) (b2 : List Nat) (h2 : List Int) : List Int := (mrgB b1 h1 b2 h2).map fun a => ((capH (hitsM b1 h1 b2 h2 a) : Nat) : Int)
theorem mrg_same (b1 : List Nat) (h1 : List Int) (b2 : List Nat) (h2 : List Int) : covB (mergeP b1 h1 b2 h2) = mrgB b1 h1 b2 h2 ∧ covH (mergeP b1 h1 b2 h2) = mrgH b1 h1 b2 h2 := by
  have ht : ∀ a, tot (mergeP b1 h1 b2 h2) a = tot (pairs b1 h1) a + tot (pairs b2 h2) a := fun a => by rw [mergeP, tot_append]
  have hp : ∀ a, 0 < hitsM b1 h1 b2 h2 a ↔ 0 < tot (mergeP b1 h1 b2 h2) a := fun a => by
    rw [ht, hitsM]
    have e1 := capH_pos (tot (pairs b1 h1) a)
    have e2 := capH_pos (tot (pairs b2 h2) a)
    omega
  have hb : covB (mergeP b1 h1 b2 h2) = mrgB b1 h1 b2 h2 := pw_ext (asc_pw _) (asc_pw _) fun a => by
    rw [covB_mem, mrgB, asc_mem, List.mem_filter, decide_eq_true_eq, hp]
    refine ⟨fun h => ⟨?_, h⟩, fun h => h.2⟩
    apply Classical.byContradiction
    intro hn
    rw [List.mem_append, not_or] at hn
    rw [ht, tot_none (fun h => hn.1 (pairs_fst h)), tot_none (fun h => hn.2 (pairs_fst h))] at h
    omega
  refine ⟨hb, ?_⟩
  rw [covH, mrgH, hb]
  refine List.map_congr_left fun a _ => ?_
  rw [ht, hitsM, capH_two]
theorem mergeP_comm (b1 : List Nat) (h1 : List Int) (b2 : List Nat) (h2 : List Int) : covB (mergeP b1 h1 b2 h2) = covB (mergeP b2 h2 b1 h1) ∧ covH (mergeP b1 h1 b2 h2) = covH (mergeP b2 h2 b1 h1) :=
  covB_eq fun a => by rw [mergeP, mergeP, tot_append, tot_append, Nat.add_comm]

/-- The two covers' boxes. -/
structure AB (b : Nat) (v0 v1 v2 v3 : Value) (w : World) : Prop where
  a0 : w.cell? ⟨b, 0, none⟩ = some v0
  a1 : w.cell? ⟨b, 1, none⟩ = some v1
  b0 : w.cell? ⟨b + 1, 0, none⟩ = some v2
  b1 : w.cell? ⟨b + 1, 1, none⟩ = some v3
theorem AB.ext2 {b : Nat} {v0 v1 v2 v3 : Value} {w w' : World} (h : AB b v0 v1 v2 v3 w) (he : Ext w w') : AB b v0 v1 v2 v3 w' := ⟨he.cell h.a0, he.cell h.a1, he.cell h.b0, he.cell h.b1⟩
theorem AB.far {b d o : Nat} {v0 v1 v2 v3 v : Value} {w : World} (h : AB b v0 v1 v2 v3 w) (hd : b + 1 < d) : AB b v0 v1 v2 v3 (w.setCell ⟨d, o, none⟩ v) :=
  ⟨(World.cell?_setCell_other _ _ _ _ (by simp <;> omega)).trans h.a0, (World.cell?_setCell_other _ _ _ _ (by simp <;> omega)).trans h.a1, (World.cell?_setCell_other _ _ _ _ (by simp <;> omega)).trans h.b0, (World.cell?_setCell_other _ _ _ _ (by simp <;> omega)).trans h.b1⟩
theorem AB.gr {b : Nat} {v0 v1 v2 v3 : Value} {w w' : World} {row : Option Nat} (h : AB b v0 v1 v2 v3 w) (hg : w.grownBy w' row) (h1 : some b ≠ row) (h2 : some (b + 1) ≠ row) : AB b v0 v1 v2 v3 w' :=
  ⟨(grown_cell hg (q := ⟨b, 0, none⟩) (by have := World.block_lt_of_cell? _ _ h.a0; exact this) h1).trans h.a0, (grown_cell hg (q := ⟨b, 1, none⟩) (by have := World.block_lt_of_cell? _ _ h.a0; exact this) h1).trans h.a1,
   (grown_cell hg (q := ⟨b + 1, 0, none⟩) (by have := World.block_lt_of_cell? _ _ h.b0; exact this) h2).trans h.b0, (grown_cell hg (q := ⟨b + 1, 1, none⟩) (by have := World.block_lt_of_cell? _ _ h.b0; exact this) h2).trans h.b1⟩
theorem ext5 {w w' : World} {p0 p1 p2 p3 p4 : Addr} {u0 u1 u2 u3 u4 : Value} (h : w.cell? p0 = some u0 ∧ w.cell? p1 = some u1 ∧ w.cell? p2 = some u2 ∧ w.cell? p3 = some u3 ∧ w.cell? p4 = some u4) (he : Ext w w') :
    w'.cell? p0 = some u0 ∧ w'.cell? p1 = some u1 ∧ w'.cell? p2 = some u2 ∧ w'.cell? p3 = some u3 ∧ w'.cell? p4 = some u4 :=
  ⟨he.cell h.1, he.cell h.2.1, he.cell h.2.2.1, he.cell h.2.2.2.1, he.cell h.2.2.2.2⟩

theorem ext7 {w w' : World} {p0 p1 p2 p3 p4 p5 p6 : Addr} {u0 u1 u2 u3 u4 u5 u6 : Value} (h : w.cell? p0 = some u0 ∧ w.cell? p1 = some u1 ∧ w.cell? p2 = some u2 ∧ w.cell? p3 = some u3 ∧ w.cell? p4 = some u4 ∧ w.cell? p5 = some u5 ∧ w.cell? p6 = some u6) (he : Ext w w') :
    w'.cell? p0 = some u0 ∧ w'.cell? p1 = some u1 ∧ w'.cell? p2 = some u2 ∧ w'.cell? p3 = some u3 ∧ w'.cell? p4 = some u4 ∧ w'.cell? p5 = some u5 ∧ w'.cell? p6 = some u6 :=
  ⟨he.cell h.1, he.cell h.2.1, he.cell h.2.2.1, he.cell h.2.2.2.1, he.cell h.2.2.2.2.1, he.cell h.2.2.2.2.2.1, he.cell h.2.2.2.2.2.2⟩
theorem gr1 {w w' : World} {p : Addr} {u : Value} {row : Option Nat} {m : Nat} (h : w.cell? p = some u) (hg : w.grownBy w' row) (hne : ∀ d, d < m → some d ≠ row) (l : p.block < m) : w'.cell? p = some u :=
  (grown_cell hg (World.block_lt_of_cell? _ _ h) (hne _ l)).trans h
theorem gr7 {w w' : World} {p0 p1 p2 p3 p4 p5 p6 : Addr} {u0 u1 u2 u3 u4 u5 u6 : Value} {row : Option Nat} {m : Nat} (h : w.cell? p0 = some u0 ∧ w.cell? p1 = some u1 ∧ w.cell? p2 = some u2 ∧ w.cell? p3 = some u3 ∧ w.cell? p4 = some u4 ∧ w.cell? p5 = some u5 ∧ w.cell? p6 = some u6)
    (hg : w.grownBy w' row) (hne : ∀ d, d < m → some d ≠ row) (l0 : p0.block < m) (l1 : p1.block < m) (l2 : p2.block < m) (l3 : p3.block < m) (l4 : p4.block < m) (l5 : p5.block < m) (l6 : p6.block < m) :
    w'.cell? p0 = some u0 ∧ w'.cell? p1 = some u1 ∧ w'.cell? p2 = some u2 ∧ w'.cell? p3 = some u3 ∧ w'.cell? p4 = some u4 ∧ w'.cell? p5 = some u5 ∧ w'.cell? p6 = some u6 :=
  ⟨gr1 h.1 hg hne l0, gr1 h.2.1 hg hne l1, gr1 h.2.2.1 hg hne l2, gr1 h.2.2.2.1 hg hne l3, gr1 h.2.2.2.2.1 hg hne l4, gr1 h.2.2.2.2.2.1 hg hne l5, gr1 h.2.2.2.2.2.2 hg hne l6⟩
set_option maxRecDepth 100000 in
set_option maxHeartbeats 8000000 in
theorem rmerge_any (w : World) (A B A' B' : Option Addr) (n c k d n' c' k' d' : Nat) (bl bl' : List Nat) (hs hs' : List Int) (h1 : Sl u32R w All (.slice A n c) bl) (h2 : Sl i64R w All (.slice B k d) hs) (h3 : Sl u32R w All (.slice A' n' c') bl') (h4 : Sl i64R w All (.slice B' k' d') hs') (hn : n ≤ 200) (hn' : n' ≤ 200) :
    Calls Try.prog 31 #[.agg #[.slice A n c, .slice B k d], .agg #[.slice A' n' c', .slice B' k' d']] w (CovIs w (mrgB bl hs bl' hs') (mrgH bl hs bl' hs')) := by
  have hln := h1.len
  have hln' := h3.len
  obtain ⟨W0, hW0⟩ : ∃ W0, (((w.alloc (.cells #[.slice A n c, .slice B k d] 29)).alloc (.cells #[.slice A' n' c', .slice B' k' d'] 29)).alloc (.cells #[.slice none 0 0, .slice none 0 0] 29)).alloc (.cells #[.slice none 0 0, .slice none 0 0] 29) = W0 := ⟨_, rfl⟩
  have hE0 : Ext w W0 := by rw [← hW0]; exact ((((Ext.refl w).alloc _).alloc _).alloc _).alloc _
  have hs0 : W0.heap.size = w.heap.size + 1 + 1 + 1 + 1 := by rw [← hW0]; simp
  have HAB0 : Hid (AB w.heap.size (.slice A n c) (.slice B k d) (.slice A' n' c') (.slice B' k' d') W0) := hid ⟨by rw [← hW0]; simp [go_sem], by rw [← hW0]; simp [go_sem], by rw [← hW0]; simp [go_sem], by rw [← hW0]; simp [go_sem]⟩
  have HR0 : Hid (RCv (w.heap.size + 1 + 1) w W0 none 0 []) := hid ⟨hE0, by omega, by rw [← hW0]; simp [go_sem], by rw [← hW0]; simp [go_sem], fun i => by rw [← hW0]; simp [go_sem], by rw [← hW0]; simp [go_sem], by rw [← hW0]; simp [go_sem], fun i => by rw [← hW0]; simp [go_sem], Sl.nil⟩
  have H1 := hid (h1.mono (S' := fun d => d < w.heap.size) fun d _ hc => hc.lt)
  have H2 := hid (h2.mono (S' := fun d => d < w.heap.size) fun d _ hc => hc.lt)
  have H3 := hid (h3.mono (S' := fun d => d < w.heap.size) fun d _ hc => hc.lt)
  have H4 := hid (h4.mono (S' := fun d => d < w.heap.size) fun d _ hc => hc.lt)
  have HLN := hid hln
  have HLN' := hid hln'
  have HS0 := hid hs0
  obtain ⟨i0, hi, hz0, hz1, hz2⟩ := info_parts info_w32
  have HI := hid hi
  have HZ0 := hid hz0
  have HZ1 := hid hz1
  have HZ2 := hid hz2
  obtain ⟨j0, hj, hj0, hj1, hj2⟩ := info_parts info_int
  have HJ := hid hj
  have HJ0 := hid hj0
  have HJ1 := hid hj1
  have HJ2 := hid hj2
  have hcap1 := h1.cap
  have hcap3 := h3.cap
  clear h1 h2 h3 h4 hln hln' hE0 hs0 hi hz0 hz1 hz2 hj hj0 hj1 hj2
  obtain ⟨b, hb⟩ : ∃ b, w.heap.size = b := ⟨_, rfl⟩
  have HB := hid hb
  go_enter Try.func31, Try.ntmps31
  go_wp2_with fail
  clear hW0
  rw [hb] at HR0 HAB0 HS0
  try rw [hb]
  clear hb
  have a0 := HAB0.out.a0
  have b0 := HAB0.out.b0
  refine wp_region_held_drew (S := (fun w' => w'.cell? ⟨b, 0, none⟩ = some (.slice A n c) ∧ w'.cell? ⟨b + 1, 0, none⟩ = some (.slice A' n' c'))) (by kernel_rfl) ⟨a0, b0⟩ (fun hSR0 => ?_)
  refine wpAnyH_takeL (i := 1) (v := ?Rv1) rfl (by kernel_rfl) (by kernel_rfl) (by kernel_rfl) (fun _ _ _ h => h) (Or.inl ⟨by rfl, ?Ry1⟩) (by assumption) ?Rr1
  case Ry1 => first | (intro w hSw; (try dsimp only at hSw); go_simp; done) | (intro w hSw; (try dsimp only at hSw); go_simp; with_reducible rfl)
  case' Rr1 => try simp only [Act.put, List.setIfInBounds_toArray, List.set_cons_zero, List.set_cons_succ]
  refine wpAnyH_takeL (i := 2) (v := ?Rv2) rfl (by kernel_rfl) (by kernel_rfl) (by kernel_rfl) (fun _ _ _ h => h) (Or.inl ⟨by rfl, ?Ry2⟩) (by assumption) ?Rr2
  case Ry2 => first | (intro w hSw; (try dsimp only at hSw); go_simp; done) | (intro w hSw; (try dsimp only at hSw); go_simp; with_reducible rfl)
  case' Rr2 => try simp only [Act.put, List.setIfInBounds_toArray, List.set_cons_zero, List.set_cons_succ]
  refine wpAnyH_takeL (i := 4) (v := ?Rv4) rfl (by kernel_rfl) (by kernel_rfl) (by kernel_rfl) (fun _ _ _ h => h) (Or.inl ⟨by rfl, ?Ry4⟩) (by assumption) ?Rr4
  case Ry4 => first | (intro w hSw; (try dsimp only at hSw); go_simp; done) | (intro w hSw; (try dsimp only at hSw); go_simp; with_reducible rfl)
  case' Rr4 => try simp only [Act.put, List.setIfInBounds_toArray, List.set_cons_zero, List.set_cons_succ]
  refine wpAnyH_takeL (i := 5) (v := ?Rv5) rfl (by kernel_rfl) (by kernel_rfl) (by kernel_rfl) (fun _ _ _ h => h) (Or.inl ⟨by rfl, ?Ry5⟩) (by assumption) ?Rr5
  case Ry5 => first | (intro w hSw; (try dsimp only at hSw); go_simp; done) | (intro w hSw; (try dsimp only at hSw); go_simp; with_reducible rfl)
  case' Rr5 => try simp only [Act.put, List.setIfInBounds_toArray, List.set_cons_zero, List.set_cons_succ]
  refine wpAnyH_ready (rs := [0]) (by kernel_rfl) (by simp) ?_
  refine AllReadyH.consL rfl (fun K hK => ?_) AllReadyH.nil
  go_simp
  refine hK.out _ _ ⟨((Ext.refl W0).drew.alloc _).cell a0, ((Ext.refl W0).drew.alloc _).cell b0⟩ (fun hSR1 => ?_)
  clear hK K
  try simp only [Act.put, List.setIfInBounds_toArray, List.set_cons_zero, List.set_cons_succ]
  refine wpAnyH_ready (rs := [3]) (by kernel_rfl) (by simp) ?_
  refine AllReadyH.consL rfl (fun K hK => ?_) AllReadyH.nil
  refine step_appS rfl (.tmp 9) (.tmp 11) 23 rfl W0.heap.size 36 i0 _ 1 4 Try.underlying23 HI.out HZ0.out HZ1.out HZ2.out rfl u32R rfl _ [] rfl (OwnS.fresh0 (T := All) W0.drew (Nat.le_refl _)) A n c bl (fun d => d < W0.heap.size) rfl (((H1.out.mono (fun d hd _ => by have := HS0.out; have := HB.out; omega)).ext HR0.out.ext).ext ((Ext.refl W0).drew.alloc _)) (fun _ hb _ => ⟨trivial, own_ne hb⟩) (by simp; omega) (by simp; omega) (by simp) ?_
  intro A4 c4 w4 hown4 hg4
  have HO4 : Hid (OwnS u32R w4 W0.heap.size 36 All (.slice A4 n c4) bl) := hid (by simpa using hown4)
  have HX4 := hid (((Ext.refl W0).drew.alloc _).grown hg4 (fun k hk => by rw [own_at hk]; simp))
  clear hown4 hg4
  simp only [List.length_nil, Nat.zero_add]
  refine hK.out _ _ ⟨HX4.out.cell a0, HX4.out.cell b0⟩ (fun hSR2 => ?_)
  clear hK K
  try simp only [Act.put, List.setIfInBounds_toArray, List.set_cons_zero, List.set_cons_succ]
  refine wpAnyH_ready (rs := [6]) (by kernel_rfl) (by simp) ?_
  refine AllReadyH.consL rfl (fun K hK => ?_) AllReadyH.nil
  refine step_appS rfl (.tmp 12) (.tmp 14) 23 rfl W0.heap.size 36 i0 _ 1 4 Try.underlying23 HI.out HZ0.out HZ1.out HZ2.out rfl u32R rfl (.slice A4 n c4) bl rfl HO4.out A' n' c' bl' (fun d => d < W0.heap.size) rfl (((H3.out.mono (fun d hd _ => by have := HS0.out; have := HB.out; omega)).ext HR0.out.ext).ext HX4.out) (fun d hd _ => ⟨trivial, fun e => by have := HO4.out.block d e.symm; omega⟩) (by have := HLN.out; omega) (by have := HLN.out; omega) (by exact HX4.out.size) ?_
  intro A5 c5 w5 hown5 hg5
  have HX5 := hid (HX4.out.grown hg5 (fun k hk => (HO4.out.block _ hk).1))
  rw [← HLN.out] at hown5
  have HO5 := hid hown5
  clear hown5 hg5
  rw [← HLN.out]
  refine hK.out _ _ ⟨HX5.out.cell a0, HX5.out.cell b0⟩ (fun hSR3 => ?_)
  clear hK K
  try simp only [Act.put, List.setIfInBounds_toArray, List.set_cons_zero, List.set_cons_succ]
  refine wpAnyH_takeL (i := 7) (v := ?Rv7) rfl (by kernel_rfl) (by kernel_rfl) (by kernel_rfl) (fun _ _ _ h => h) (Or.inl ⟨by rfl, ?Ry7⟩) (by assumption) ?Rr7
  case Ry7 => first | (intro w hSw; (try dsimp only at hSw); go_simp; done) | (intro w hSw; (try dsimp only at hSw); go_simp; with_reducible rfl)
  case' Rr7 => try simp only [Act.put, List.setIfInBounds_toArray, List.set_cons_zero, List.set_cons_succ]
  refine wpAnyH_done (by kernel_rfl) ?_ _
  have HALL : Hid (Sl u32R w5 (fun d => b + 1 + 1 + 1 < d) (.slice A5 (n + n') c5) (bl ++ bl')) := hid (HO5.out.num_sl (fun d hd => by have := HS0.out; omega))
  have HR5 := hid (HR0.out.ext2 HX5.out)
  have HAB5 := hid (HAB0.out.ext2 HX5.out)
  have hcapA := HALL.out.cap
  obtain ⟨AL, hAL⟩ : ∃ AL, bl ++ bl' = AL := ⟨_, rfl⟩
  have hALl : AL.length = n + n' := by rw [← hAL, List.length_append, HLN.out, HLN'.out]
  rw [hAL] at HALL
  have HAL := hid hAL
  have HALL2 := hid hALl
  have hb3 : b + 1 + 1 + 1 < w5.heap.size := by have := World.block_lt_of_cell? _ _ HR5.out.x0; exact this
  clear a0 b0 hAL hALl
  go_wp2_with fail
  obtain ⟨N, hN⟩ : ∃ N, n + n' = N := ⟨_, rfl⟩
  have hN4 : N ≤ 400 := by omega
  rw [hN] at HALL HALL2 hcapA
  try rw [hN]
  clear hN
  go_loopw [7] (fun i wr => ∃ (j : Nat) (A1 : Option Addr) (c1 : Nat) (M : List Nat), j ≤ N ∧ i = .int .i64 j ∧ M.length ≤ j ∧ Hid (RCv (b + 1 + 1) w wr A1 c1 M) ∧ Hid (AB b (.slice A n c) (.slice B k d) (.slice A' n' c') (.slice B' k' d') wr) ∧ Hid (w5.grownBy wr (some (b + 1 + 1 + 1))) ∧ Hid (M = asc ((AL.take j).filter fun a => decide (0 < hitsM bl hs bl' hs' a)))) (fun i _ => N - (intOf i).toNat)
  case atStart => exact ⟨0, none, 0, [], by omega, rfl, by simp, HR5, HAB5, hid (World.grownBy.refl _ _), hid rfl⟩
  case round =>
    obtain ⟨j, A1, c1, M, hj, rfl, hMl, HR, HABr, HG, HM⟩ := hrel
    by_cases h1 : j < N
    · obtain ⟨x, hx⟩ : ∃ x, AL[j]? = some x := ⟨_, List.getElem?_eq_getElem (by have := HALL2.out; omega)⟩
      have hall := HALL.out.keep (w' := wr) (fun d hd hc => HG.out.block d hc.lt (fun e => by injection e; omega))
      obtain ⟨gb, off, rfl, cx, hx32⟩ := hall.num_at hx
      have hst : asc ((AL.take (j + 1)).filter fun a => decide (0 < hitsM bl hs bl' hs' a)) = if 0 < hitsM bl hs bl' hs' x then insOf (asc ((AL.take j).filter fun a => decide (0 < hitsM bl hs bl' hs' a))) x else asc ((AL.take j).filter fun a => decide (0 < hitsM bl hs bl' hs' a)) := by
        have e : (AL.take (j + 1)).filter (fun a => decide (0 < hitsM bl hs bl' hs' a)) = (AL.take j).filter (fun a => decide (0 < hitsM bl hs bl' hs' a)) ++ if 0 < hitsM bl hs bl' hs' x then [x] else [] := by
          rw [take_snoc' hx, List.filter_append, List.filter_cons]
          by_cases h : 0 < hitsM bl hs bl' hs' x
          · rw [if_pos (by simpa using h), if_pos h]; rfl
          · rw [if_neg (by simpa using h), if_neg h]; rfl
        rw [e]
        by_cases h : 0 < hitsM bl hs bl' hs' x
        · rw [if_pos h, if_pos h, asc_snoc]
        · rw [if_neg h, if_neg h, List.append_nil]
      obtain ⟨y1, hy1⟩ : ∃ y1, capH (tot (pairs bl hs) x) = y1 := ⟨_, rfl⟩
      obtain ⟨y2, hy2⟩ : ∃ y2, capH (tot (pairs bl' hs') x) = y2 := ⟨_, rfl⟩
      have hl1 : y1 ≤ 2147483647 := by rw [← hy1]; exact capH_le _
      have hl2 : y2 ≤ 2147483647 := by rw [← hy2]; exact capH_le _
      rw [show hitsM bl hs bl' hs' x = y1 + y2 by rw [hitsM, hy1, hy2]] at hst
      have HST := hid hst
      have HY1 := hid hy1
      have HY2 := hid hy2
      have a0 := HABr.out.a0
      have a1 := HABr.out.a1
      have b0 := HABr.out.b0
      have b1 := HABr.out.b1
      have HC5 := hid (And.intro a0 (And.intro a1 (And.intro b0 (And.intro b1 cx))))
      have hw : IntKind.i64.wrap ((y1 : Int) + (y2 : Int)) = (y1 : Int) + (y2 : Int) := IntWalk.i64_in _ (by omega)
      clear hx hall hst hy1 hy2
      by_cases hpos : 0 < y1 + y2
      · have hpos' : (y1 : Int) + (y2 : Int) > 0 := by omega
        have hil := insOf_length M x
        go_wp2_with fail
        have HXR0 := hid ((Ext.refl wr).drew)
        refine wp_region_held_drew (S := (fun w' => w'.cell? ⟨b, 0, none⟩ = some (.slice A n c) ∧ w'.cell? ⟨b, 1, none⟩ = some (.slice B k d) ∧ w'.cell? ⟨b + 1, 0, none⟩ = some (.slice A' n' c') ∧ w'.cell? ⟨b + 1, 1, none⟩ = some (.slice B' k' d') ∧ w'.cell? ⟨gb, off + j, none⟩ = some (.int .u32 x))) (by kernel_rfl) ⟨a0, a1, b0, b1, cx⟩ (fun hSR0 => ?_)
        refine wpAnyH_takeL (i := 0) (v := ?Rv0x1) rfl (by kernel_rfl) (by kernel_rfl) (by kernel_rfl) (fun _ _ _ h => h) (Or.inl ⟨by rfl, ?Ry0x1⟩) (by assumption) ?Rr0x1
        case Ry0x1 => first | (intro w hSw; (try dsimp only at hSw); go_simp; done) | (intro w hSw; (try dsimp only at hSw); go_simp; with_reducible rfl)
        case' Rr0x1 => try simp only [Act.put, List.setIfInBounds_toArray, List.set_cons_zero, List.set_cons_succ]
        refine wpAnyH_takeL (i := 1) (v := ?Rv1x2) rfl (by kernel_rfl) (by kernel_rfl) (by kernel_rfl) (fun _ _ _ h => h) (Or.inl ⟨by rfl, ?Ry1x2⟩) (by assumption) ?Rr1x2
        case Ry1x2 => first | (intro w hSw; (try dsimp only at hSw); go_simp; done) | (intro w hSw; (try dsimp only at hSw); go_simp; with_reducible rfl)
        case' Rr1x2 => try simp only [Act.put, List.setIfInBounds_toArray, List.set_cons_zero, List.set_cons_succ]
        refine wpAnyH_takeL (i := 2) (v := ?Rv2x3) rfl (by kernel_rfl) (by kernel_rfl) (by kernel_rfl) (fun _ _ _ h => h) (Or.inl ⟨by rfl, ?Ry2x3⟩) (by assumption) ?Rr2x3
        case Ry2x3 => first | (intro w hSw; (try dsimp only at hSw); go_simp; done) | (intro w hSw; (try dsimp only at hSw); go_simp; with_reducible rfl)
        case' Rr2x3 => try simp only [Act.put, List.setIfInBounds_toArray, List.set_cons_zero, List.set_cons_succ]
        refine wpAnyH_takeL (i := 3) (v := ?Rv3x4) rfl (by kernel_rfl) (by kernel_rfl) (by kernel_rfl) (fun _ _ _ h => h) (Or.inl ⟨by rfl, ?Ry3x4⟩) (by assumption) ?Rr3x4
        case Ry3x4 => first | (intro w hSw; (try dsimp only at hSw); go_simp; done) | (intro w hSw; (try dsimp only at hSw); go_simp; with_reducible rfl)
        case' Rr3x4 => try simp only [Act.put, List.setIfInBounds_toArray, List.set_cons_zero, List.set_cons_succ]
        refine wpAnyH_takeL (i := 4) (v := ?Rv4x5) rfl (by kernel_rfl) (by kernel_rfl) (by kernel_rfl) (fun _ _ _ h => h) (Or.inl ⟨by rfl, ?Ry4x5⟩) (by assumption) ?Rr4x5
        case Ry4x5 => first | (intro w hSw; (try dsimp only at hSw); go_simp; done) | (intro w hSw; (try dsimp only at hSw); go_simp; with_reducible rfl)
        case' Rr4x5 => try simp only [Act.put, List.setIfInBounds_toArray, List.set_cons_zero, List.set_cons_succ]
        refine wpAnyH_takeL (i := 6) (v := ?Rv6x6) rfl (by kernel_rfl) (by kernel_rfl) (by kernel_rfl) (fun _ _ _ h => h) (Or.inl ⟨by rfl, ?Ry6x6⟩) (by assumption) ?Rr6x6
        case Ry6x6 => first | (intro w hSw; (try dsimp only at hSw); go_simp; done) | (intro w hSw; (try dsimp only at hSw); go_simp; with_reducible rfl)
        case' Rr6x6 => try simp only [Act.put, List.setIfInBounds_toArray, List.set_cons_zero, List.set_cons_succ]
        refine wpAnyH_takeL (i := 7) (v := ?Rv7x7) rfl (by kernel_rfl) (by kernel_rfl) (by kernel_rfl) (fun _ _ _ h => h) (Or.inl ⟨by rfl, ?Ry7x7⟩) (by assumption) ?Rr7x7
        case Ry7x7 => first | (intro w hSw; (try dsimp only at hSw); go_simp; done) | (intro w hSw; (try dsimp only at hSw); go_simp; with_reducible rfl)
        case' Rr7x7 => try simp only [Act.put, List.setIfInBounds_toArray, List.set_cons_zero, List.set_cons_succ]
        refine wpAnyH_takeL (i := 8) (v := ?Rv8x8) rfl (by kernel_rfl) (by kernel_rfl) (by kernel_rfl) (fun _ _ _ h => h) (Or.inl ⟨by rfl, ?Ry8x8⟩) (by assumption) ?Rr8x8
        case Ry8x8 => first | (intro w hSw; (try dsimp only at hSw); go_simp; done) | (intro w hSw; (try dsimp only at hSw); go_simp; with_reducible rfl)
        case' Rr8x8 => try simp only [Act.put, List.setIfInBounds_toArray, List.set_cons_zero, List.set_cons_succ]
        refine wpAnyH_takeL (i := 9) (v := ?Rv9x9) rfl (by kernel_rfl) (by kernel_rfl) (by kernel_rfl) (fun _ _ _ h => h) (Or.inl ⟨by rfl, ?Ry9x9⟩) (by assumption) ?Rr9x9
        case Ry9x9 => first | (intro w hSw; (try dsimp only at hSw); go_simp; done) | (intro w hSw; (try dsimp only at hSw); go_simp; with_reducible rfl)
        case' Rr9x9 => try simp only [Act.put, List.setIfInBounds_toArray, List.set_cons_zero, List.set_cons_succ]
        refine wpAnyH_takeL (i := 10) (v := ?Rv10x10) rfl (by kernel_rfl) (by kernel_rfl) (by kernel_rfl) (fun _ _ _ h => h) (Or.inl ⟨by rfl, ?Ry10x10⟩) (by assumption) ?Rr10x10
        case Ry10x10 => first | (intro w hSw; (try dsimp only at hSw); go_simp; done) | (intro w hSw; (try dsimp only at hSw); go_simp; with_reducible rfl)
        case' Rr10x10 => try simp only [Act.put, List.setIfInBounds_toArray, List.set_cons_zero, List.set_cons_succ]
        refine wpAnyH_ready (rs := [5]) (by kernel_rfl) (by simp) ?_
        refine (AllReadyH.consL rfl (fun K hK => ?Rb5x11) AllReadyH.nil)
        case' Rb5x11 =>
          go_simp
          go_at_call 47
          refine (hits_any _ A B n c k d bl hs ((H1.out.all.ext HR.out.ext).ext HXR0.out) ((H2.out.all.ext HR.out.ext).ext HXR0.out) x).mono ?_
          rintro e w6 ⟨rfl, hER1⟩
          rw [HY1.out]
          have HXR1 := hid (HXR0.out.trans hER1)
          clear hER1
          refine hK.out _ _ (ext5 HC5.out HXR1.out) (fun hSR1 => ?_)
          clear hK K
          try simp only [Act.put, List.setIfInBounds_toArray, List.set_cons_zero, List.set_cons_succ]
          refine wpAnyH_ready (rs := [11]) (by kernel_rfl) (by simp) ?_
          refine (AllReadyH.consL rfl (fun K hK => ?Rb11x12) AllReadyH.nil)
          case' Rb11x12 =>
            go_simp
            go_at_call 47
            refine (hits_any _ A' B' n' c' k' d' bl' hs' ((H3.out.all.ext HR.out.ext).ext HXR1.out) ((H4.out.all.ext HR.out.ext).ext HXR1.out) x).mono ?_
            rintro e w7 ⟨rfl, hER2⟩
            rw [HY2.out]
            have HXR2 := hid (HXR1.out.trans hER2)
            clear hER2
            refine hK.out _ _ (ext5 HC5.out HXR2.out) (fun hSR2 => ?_)
            clear hK K
            try simp only [Act.put, List.setIfInBounds_toArray, List.set_cons_zero, List.set_cons_succ]
            refine wpAnyH_takeL (i := 12) (v := ?Rv12x13) rfl (by kernel_rfl) (by kernel_rfl) (by kernel_rfl) (fun _ _ _ h => h) (Or.inl ⟨by rfl, ?Ry12x13⟩) (by assumption) ?Rr12x13
            case Ry12x13 => first | (intro w hSw; (try dsimp only at hSw); go_simp; done) | (intro w hSw; (try dsimp only at hSw); go_simp; with_reducible rfl)
            case' Rr12x13 => try simp only [Act.put, List.setIfInBounds_toArray, List.set_cons_zero, List.set_cons_succ]
            refine wpAnyH_takeL (i := 13) (v := ?Rv13x14) rfl (by kernel_rfl) (by kernel_rfl) (by kernel_rfl) (fun _ _ _ h => h) (Or.inl ⟨by rfl, ?Ry13x14⟩) (by assumption) ?Rr13x14
            case Ry13x14 => first | (intro w hSw; (try dsimp only at hSw); go_simp; done) | (intro w hSw; (try dsimp only at hSw); go_simp; with_reducible rfl)
            case' Rr13x14 => try simp only [Act.put, List.setIfInBounds_toArray, List.set_cons_zero, List.set_cons_succ]
            refine wpAnyH_done (by kernel_rfl) ?_ _
            have HRR := hid (HR.out.ext2 HXR2.out)
            have x0 := HRR.out.x0
            have fx0 := HRR.out.fx 0
            have cx := HXR2.out.cell cx
            clear a0 a1 b0 b1
            go_wp2_with fail
            refine wp_region_split 8 (by kernel_rfl) rfl rfl (by kernel_rfl) (fun w' => w'.cell? ⟨b + 1 + 1 + 1, 0, none⟩ = some (.slice A1 M.length c1) ∧ w'.cell? ⟨gb, off + j, none⟩ = some (.int .u32 x)) ⟨x0, cx⟩ (fun hSIR10 => ?_)
            refine wpAnyH_takeL (i := 0) (v := ?IR1v0) rfl (by kernel_rfl) (by kernel_rfl) (by kernel_rfl) (fun _ _ _ h => h) (Or.inl ⟨by rfl, ?IR1y0⟩) (by assumption) ?IR1r0
            case IR1y0 => first | (intro w hSw; (try dsimp only at hSw); go_simp; done) | (intro w hSw; (try dsimp only at hSw); go_simp; with_reducible rfl)
            case' IR1r0 => try simp only [Act.put, List.setIfInBounds_toArray, List.set_cons_zero, List.set_cons_succ]
            refine wpAnyH_takeL (i := 1) (v := ?IR1v1) rfl (by kernel_rfl) (by kernel_rfl) (by kernel_rfl) (fun _ _ _ h => h) (Or.inl ⟨by rfl, ?IR1y1⟩) (by assumption) ?IR1r1
            case IR1y1 => first | (intro w hSw; (try dsimp only at hSw); go_simp; done) | (intro w hSw; (try dsimp only at hSw); go_simp; with_reducible rfl)
            case' IR1r1 => try simp only [Act.put, List.setIfInBounds_toArray, List.set_cons_zero, List.set_cons_succ]
            refine wpAnyH_takeL (i := 2) (v := ?IR1v2) rfl (by kernel_rfl) (by kernel_rfl) (by kernel_rfl) (fun _ _ _ h => h) (Or.inl ⟨by rfl, ?IR1y2⟩) (by assumption) ?IR1r2
            case IR1y2 => first | (intro w hSw; (try dsimp only at hSw); go_simp; done) | (intro w hSw; (try dsimp only at hSw); go_simp; with_reducible rfl)
            case' IR1r2 => try simp only [Act.put, List.setIfInBounds_toArray, List.set_cons_zero, List.set_cons_succ]
            refine wpAnyH_takeL (i := 3) (v := ?IR1v3) rfl (by kernel_rfl) (by kernel_rfl) (by kernel_rfl) (fun _ _ _ h => h) (Or.inl ⟨by rfl, ?IR1y3⟩) (by assumption) ?IR1r3
            case IR1y3 => first | (intro w hSw; (try dsimp only at hSw); go_simp; done) | (intro w hSw; (try dsimp only at hSw); go_simp; with_reducible rfl)
            case' IR1r3 => try simp only [Act.put, List.setIfInBounds_toArray, List.set_cons_zero, List.set_cons_succ]
            refine wpAnyH_takeL (i := 4) (v := ?IR1v4) rfl (by kernel_rfl) (by kernel_rfl) (by kernel_rfl) (fun _ _ _ h => h) (Or.inl ⟨by rfl, ?IR1y4⟩) (by assumption) ?IR1r4
            case IR1y4 => first | (intro w hSw; (try dsimp only at hSw); go_simp; done) | (intro w hSw; (try dsimp only at hSw); go_simp; with_reducible rfl)
            case' IR1r4 => try simp only [Act.put, List.setIfInBounds_toArray, List.set_cons_zero, List.set_cons_succ]
            refine wpAnyH_takeL (i := 5) (v := ?IR1v5) rfl (by kernel_rfl) (by kernel_rfl) (by kernel_rfl) (fun _ _ _ h => h) (Or.inl ⟨by rfl, ?IR1y5⟩) (by assumption) ?IR1r5
            case IR1y5 => first | (intro w hSw; (try dsimp only at hSw); go_simp; done) | (intro w hSw; (try dsimp only at hSw); go_simp; with_reducible rfl)
            case' IR1r5 => try simp only [Act.put, List.setIfInBounds_toArray, List.set_cons_zero, List.set_cons_succ]
            refine wpAnyH_ready (rs := [6]) (by kernel_rfl) (by simp) ?_
            refine AllReadyH.consL rfl (fun K hK => ?_) AllReadyH.nil
            go_simp
            go_at_call 36
            refine (inserts_any (fun d => d ≠ b + 1 + 1 ∧ d ≠ b + 1 + 1 + 1) _ _ (Ext.refl _) (fun d hd => by have := World.block_lt_of_cell? _ _ HRR.out.x0; simp at this hd; exact ⟨by omega, by omega⟩) A1 M.length c1 M (HRR.out.sl.ext ((Ext.refl _).drew)) (by omega) x hx32).mono ?_
            rintro e w8 ⟨hx8, A6, c6, rfl, hs6⟩
            have HX8 := hid hx8.drew_left
            have HS6 := hid hs6
            clear hx8 hs6
            refine hK.out _ _ ⟨HX8.out.cell x0, HX8.out.cell cx⟩ (fun hSIR11 => ?_)
            clear hK K
            try simp only [Act.put, List.setIfInBounds_toArray, List.set_cons_zero, List.set_cons_succ]
            refine wpAnyH_takeL (i := 7) (v := ?IR1v7) rfl (by kernel_rfl) (by kernel_rfl) (by kernel_rfl) (fun _ _ _ h => h) (Or.inl ⟨by rfl, ?IR1y7⟩) (by assumption) ?IR1r7
            case IR1y7 => first | (intro w hSw; (try dsimp only at hSw); go_simp; done) | (intro w hSw; (try dsimp only at hSw); go_simp; with_reducible rfl)
            case' IR1r7 => try simp only [Act.put, List.setIfInBounds_toArray, List.set_cons_zero, List.set_cons_succ]
            refine wpAnyH_done (by kernel_rfl) ?_ _
            change wpList _ _ _ _ _ _
            have HR8 := hid (HRR.out.ext2 HX8.out)
            have HP := hid (HR8.out.put HS6.out)
            have HXW := hid (HXR2.out.trans HX8.out)
            clear x0 cx fx0
            have x0 := HR8.out.x0
            have fx0 := HR8.out.fx 0
            go_wp2
            first
              | go_roundw
              | refine ⟨?rel, ?measure⟩
            case rel => exact ⟨j + 1, A6, c6, insOf M x, by omega, by go_num, by omega, HP, hid ((HABr.out.ext2 HXW.out).far (by omega)), hid ((HG.out.andThen (HXW.out.grownBy _) (fun j hj => .inr hj)).andThen (row' := some (b + 1 + 1 + 1)) ⟨rfl, rfl, rfl, by simp, fun k _ hk => Below.heap_setCell _ _ _ k (fun e => hk (by rw [e]))⟩ (fun j hj => .inr hj)), hid (by rw [HM.out, HST.out, if_pos hpos])⟩
            case measure => simp [intOf]; omega
      · have hpos' : ¬ ((y1 : Int) + (y2 : Int) > 0) := by omega
        go_wp2_with fail
        have HXT0 := hid ((Ext.refl wr).drew)
        refine wp_region_held_drew (S := (fun w' => w'.cell? ⟨b, 0, none⟩ = some (.slice A n c) ∧ w'.cell? ⟨b, 1, none⟩ = some (.slice B k d) ∧ w'.cell? ⟨b + 1, 0, none⟩ = some (.slice A' n' c') ∧ w'.cell? ⟨b + 1, 1, none⟩ = some (.slice B' k' d') ∧ w'.cell? ⟨gb, off + j, none⟩ = some (.int .u32 x))) (by kernel_rfl) ⟨a0, a1, b0, b1, cx⟩ (fun hST0 => ?_)
        refine wpAnyH_takeL (i := 0) (v := ?Tv0x1) rfl (by kernel_rfl) (by kernel_rfl) (by kernel_rfl) (fun _ _ _ h => h) (Or.inl ⟨by rfl, ?Ty0x1⟩) (by assumption) ?Tr0x1
        case Ty0x1 => first | (intro w hSw; (try dsimp only at hSw); go_simp; done) | (intro w hSw; (try dsimp only at hSw); go_simp; with_reducible rfl)
        case' Tr0x1 => try simp only [Act.put, List.setIfInBounds_toArray, List.set_cons_zero, List.set_cons_succ]
        refine wpAnyH_takeL (i := 1) (v := ?Tv1x2) rfl (by kernel_rfl) (by kernel_rfl) (by kernel_rfl) (fun _ _ _ h => h) (Or.inl ⟨by rfl, ?Ty1x2⟩) (by assumption) ?Tr1x2
        case Ty1x2 => first | (intro w hSw; (try dsimp only at hSw); go_simp; done) | (intro w hSw; (try dsimp only at hSw); go_simp; with_reducible rfl)
        case' Tr1x2 => try simp only [Act.put, List.setIfInBounds_toArray, List.set_cons_zero, List.set_cons_succ]
        refine wpAnyH_takeL (i := 2) (v := ?Tv2x3) rfl (by kernel_rfl) (by kernel_rfl) (by kernel_rfl) (fun _ _ _ h => h) (Or.inl ⟨by rfl, ?Ty2x3⟩) (by assumption) ?Tr2x3
        case Ty2x3 => first | (intro w hSw; (try dsimp only at hSw); go_simp; done) | (intro w hSw; (try dsimp only at hSw); go_simp; with_reducible rfl)
        case' Tr2x3 => try simp only [Act.put, List.setIfInBounds_toArray, List.set_cons_zero, List.set_cons_succ]
        refine wpAnyH_takeL (i := 3) (v := ?Tv3x4) rfl (by kernel_rfl) (by kernel_rfl) (by kernel_rfl) (fun _ _ _ h => h) (Or.inl ⟨by rfl, ?Ty3x4⟩) (by assumption) ?Tr3x4
        case Ty3x4 => first | (intro w hSw; (try dsimp only at hSw); go_simp; done) | (intro w hSw; (try dsimp only at hSw); go_simp; with_reducible rfl)
        case' Tr3x4 => try simp only [Act.put, List.setIfInBounds_toArray, List.set_cons_zero, List.set_cons_succ]
        refine wpAnyH_takeL (i := 4) (v := ?Tv4x5) rfl (by kernel_rfl) (by kernel_rfl) (by kernel_rfl) (fun _ _ _ h => h) (Or.inl ⟨by rfl, ?Ty4x5⟩) (by assumption) ?Tr4x5
        case Ty4x5 => first | (intro w hSw; (try dsimp only at hSw); go_simp; done) | (intro w hSw; (try dsimp only at hSw); go_simp; with_reducible rfl)
        case' Tr4x5 => try simp only [Act.put, List.setIfInBounds_toArray, List.set_cons_zero, List.set_cons_succ]
        refine wpAnyH_takeL (i := 6) (v := ?Tv6x6) rfl (by kernel_rfl) (by kernel_rfl) (by kernel_rfl) (fun _ _ _ h => h) (Or.inl ⟨by rfl, ?Ty6x6⟩) (by assumption) ?Tr6x6
        case Ty6x6 => first | (intro w hSw; (try dsimp only at hSw); go_simp; done) | (intro w hSw; (try dsimp only at hSw); go_simp; with_reducible rfl)
        case' Tr6x6 => try simp only [Act.put, List.setIfInBounds_toArray, List.set_cons_zero, List.set_cons_succ]
        refine wpAnyH_takeL (i := 7) (v := ?Tv7x7) rfl (by kernel_rfl) (by kernel_rfl) (by kernel_rfl) (fun _ _ _ h => h) (Or.inl ⟨by rfl, ?Ty7x7⟩) (by assumption) ?Tr7x7
        case Ty7x7 => first | (intro w hSw; (try dsimp only at hSw); go_simp; done) | (intro w hSw; (try dsimp only at hSw); go_simp; with_reducible rfl)
        case' Tr7x7 => try simp only [Act.put, List.setIfInBounds_toArray, List.set_cons_zero, List.set_cons_succ]
        refine wpAnyH_takeL (i := 8) (v := ?Tv8x8) rfl (by kernel_rfl) (by kernel_rfl) (by kernel_rfl) (fun _ _ _ h => h) (Or.inl ⟨by rfl, ?Ty8x8⟩) (by assumption) ?Tr8x8
        case Ty8x8 => first | (intro w hSw; (try dsimp only at hSw); go_simp; done) | (intro w hSw; (try dsimp only at hSw); go_simp; with_reducible rfl)
        case' Tr8x8 => try simp only [Act.put, List.setIfInBounds_toArray, List.set_cons_zero, List.set_cons_succ]
        refine wpAnyH_takeL (i := 9) (v := ?Tv9x9) rfl (by kernel_rfl) (by kernel_rfl) (by kernel_rfl) (fun _ _ _ h => h) (Or.inl ⟨by rfl, ?Ty9x9⟩) (by assumption) ?Tr9x9
        case Ty9x9 => first | (intro w hSw; (try dsimp only at hSw); go_simp; done) | (intro w hSw; (try dsimp only at hSw); go_simp; with_reducible rfl)
        case' Tr9x9 => try simp only [Act.put, List.setIfInBounds_toArray, List.set_cons_zero, List.set_cons_succ]
        refine wpAnyH_takeL (i := 10) (v := ?Tv10x10) rfl (by kernel_rfl) (by kernel_rfl) (by kernel_rfl) (fun _ _ _ h => h) (Or.inl ⟨by rfl, ?Ty10x10⟩) (by assumption) ?Tr10x10
        case Ty10x10 => first | (intro w hSw; (try dsimp only at hSw); go_simp; done) | (intro w hSw; (try dsimp only at hSw); go_simp; with_reducible rfl)
        case' Tr10x10 => try simp only [Act.put, List.setIfInBounds_toArray, List.set_cons_zero, List.set_cons_succ]
        refine wpAnyH_ready (rs := [5]) (by kernel_rfl) (by simp) ?_
        refine (AllReadyH.consL rfl (fun K hK => ?Tb5x11) AllReadyH.nil)
        case' Tb5x11 =>
          go_simp
          go_at_call 47
          refine (hits_any _ A B n c k d bl hs ((H1.out.all.ext HR.out.ext).ext HXT0.out) ((H2.out.all.ext HR.out.ext).ext HXT0.out) x).mono ?_
          rintro e w6 ⟨rfl, hET1⟩
          rw [HY1.out]
          have HXT1 := hid (HXT0.out.trans hET1)
          clear hET1
          refine hK.out _ _ (ext5 HC5.out HXT1.out) (fun hST1 => ?_)
          clear hK K
          try simp only [Act.put, List.setIfInBounds_toArray, List.set_cons_zero, List.set_cons_succ]
          refine wpAnyH_ready (rs := [11]) (by kernel_rfl) (by simp) ?_
          refine (AllReadyH.consL rfl (fun K hK => ?Tb11x12) AllReadyH.nil)
          case' Tb11x12 =>
            go_simp
            go_at_call 47
            refine (hits_any _ A' B' n' c' k' d' bl' hs' ((H3.out.all.ext HR.out.ext).ext HXT1.out) ((H4.out.all.ext HR.out.ext).ext HXT1.out) x).mono ?_
            rintro e w7 ⟨rfl, hET2⟩
            rw [HY2.out]
            have HXT2 := hid (HXT1.out.trans hET2)
            clear hET2
            refine hK.out _ _ (ext5 HC5.out HXT2.out) (fun hST2 => ?_)
            clear hK K
            try simp only [Act.put, List.setIfInBounds_toArray, List.set_cons_zero, List.set_cons_succ]
            refine wpAnyH_takeL (i := 12) (v := ?Tv12x13) rfl (by kernel_rfl) (by kernel_rfl) (by kernel_rfl) (fun _ _ _ h => h) (Or.inl ⟨by rfl, ?Ty12x13⟩) (by assumption) ?Tr12x13
            case Ty12x13 => first | (intro w hSw; (try dsimp only at hSw); go_simp; done) | (intro w hSw; (try dsimp only at hSw); go_simp; with_reducible rfl)
            case' Tr12x13 => try simp only [Act.put, List.setIfInBounds_toArray, List.set_cons_zero, List.set_cons_succ]
            refine wpAnyH_takeL (i := 13) (v := ?Tv13x14) rfl (by kernel_rfl) (by kernel_rfl) (by kernel_rfl) (fun _ _ _ h => h) (Or.inl ⟨by rfl, ?Ty13x14⟩) (by assumption) ?Tr13x14
            case Ty13x14 => first | (intro w hSw; (try dsimp only at hSw); go_simp; done) | (intro w hSw; (try dsimp only at hSw); go_simp; with_reducible rfl)
            case' Tr13x14 => try simp only [Act.put, List.setIfInBounds_toArray, List.set_cons_zero, List.set_cons_succ]
            refine wpAnyH_done (by kernel_rfl) ?_ _
            go_wp2
            first
              | go_roundw
              | refine ⟨?rel, ?measure⟩
            case rel => exact ⟨j + 1, A1, c1, M, by omega, by go_num, by omega, hid (HR.out.ext2 HXT2.out), hid (HABr.out.ext2 HXT2.out), hid (HG.out.andThen (HXT2.out.grownBy _) (fun j hj => .inr hj)), hid (by rw [HM.out, HST.out, if_neg hpos])⟩
            case measure => simp [intOf]; omega
    · obtain rfl : j = N := by omega
      have hMe : M = mrgB bl hs bl' hs' := by rw [HM.out, List.take_of_length_le (by have := HALL2.out; omega), ← HAL.out, mrgB]
      obtain ⟨V, hV⟩ : ∃ V, V = wr := ⟨_, rfl⟩
      subst hV
      have HME := hid hMe
      obtain ⟨N2, hN2⟩ : ∃ N2, M.length = N2 := ⟨_, rfl⟩
      have hM2 : N2 ≤ 400 := by omega
      have HN := hid hN2
      have hbV : b + 1 + 1 + 1 < V.heap.size := by have := World.block_lt_of_cell? _ _ HR.out.x0; exact this
      have HSM := hid (HR.out.sl.mono (S' := fun d => (d ≠ b + 1 + 1 ∧ d ≠ b + 1 + 1 + 1) ∧ d < V.heap.size) (fun d h hc => ⟨h, hc.lt⟩))
      have x0 := HR.out.x0
      rw [hN2] at x0
      have hcap := HR.out.sl.cap
      obtain ⟨hcap11, hcap12⟩ := hcap
      rw [hN2] at hcap11
      have HR2 : Hid (RC2 (b + 1 + 1) V V A1 N2 c1 none 0 []) := hid ⟨World.grownBy.refl _ _, hbV, x0, HR.out.x1, HR.out.fx, OwnS.nil⟩
      clear hMe hN2 hMl x0
      go_wp2_with fail
      go_loopw [8] (fun i wr => ∃ (q : Nat) (A2 : Option Addr) (c2 : Nat) (H : List Int), q ≤ N2 ∧ i = .int .i64 q ∧ Hid (RC2 (b + 1 + 1) V wr A1 N2 c1 A2 c2 H) ∧ Hid (AB b (.slice A n c) (.slice B k d) (.slice A' n' c') (.slice B' k' d') wr) ∧ Hid (H = (M.take q).map fun a => ((capH (hitsM bl hs bl' hs' a) : Nat) : Int))) (fun i _ => N2 - (intOf i).toNat)
      case atStart => exact ⟨0, none, 0, [], by omega, rfl, HR2, HABr, hid rfl⟩
      case round =>
        obtain ⟨q, A2, c2, H, hq, rfl, HR3, HABr, HH⟩ := hrel
        have x0 := HR3.out.x0
        have x1 := HR3.out.x1
        by_cases hqN : q < N2
        · obtain ⟨x, hx⟩ : ∃ x, M[q]? = some x := ⟨_, List.getElem?_eq_getElem (by have := HN.out; omega)⟩
          have hsm := HSM.out.keep (w' := wr) (fun d hd hc => HR3.out.gr.block d hd.2 (fun e => hd.1.2 (by injection e)))
          obtain ⟨gb, off, rfl, cx, hx32⟩ := hsm.num_at hx
          have hgbV : gb < V.heap.size := by
            obtain ⟨_, _, hA, cx', _⟩ := HSM.out.num_at hx
            cases hA
            have := World.block_lt_of_cell? _ _ cx'
            exact this
          have HXM := hid hx
          have hfar : ∀ d, d < w.heap.size → IsCells V d → wr.heap[d]? = V.heap[d]? := fun d hd hc => HR3.out.gr.block d hc.lt (fun e => by injection e; have := HB.out; omega)
          have HK1 := hid (((H1.out.ext HR.out.ext).keep (w' := wr) hfar).all)
          have HK2 := hid (((H2.out.ext HR.out.ext).keep (w' := wr) hfar).all)
          have HK3 := hid (((H3.out.ext HR.out.ext).keep (w' := wr) hfar).all)
          have HK4 := hid (((H4.out.ext HR.out.ext).keep (w' := wr) hfar).all)
          obtain ⟨y1, hy1⟩ : ∃ y1, capH (tot (pairs bl hs) x) = y1 := ⟨_, rfl⟩
          obtain ⟨y2, hy2⟩ : ∃ y2, capH (tot (pairs bl' hs') x) = y2 := ⟨_, rfl⟩
          have hl1 : y1 ≤ 2147483647 := by rw [← hy1]; exact capH_le _
          have hl2 : y2 ≤ 2147483647 := by rw [← hy2]; exact capH_le _
          obtain ⟨v, hv⟩ : ∃ v, capH (y1 + y2) = v := ⟨_, rfl⟩
          have hvl : v ≤ 2147483647 := by rw [← hv]; exact capH_le _
          have hcp := capH_int y1 y2
          rw [hv] at hcp
          have HVV := hid (show ((capH (hitsM bl hs bl' hs' x) : Nat) : Int) = (v : Int) by rw [hitsM, hy1, hy2, hv])
          have HY1 := hid hy1
          have HY2 := hid hy2
          have a0 := HABr.out.a0
          have a1 := HABr.out.a1
          have b0 := HABr.out.b0
          have b1 := HABr.out.b1
          have HC7 := hid (And.intro a0 (And.intro a1 (And.intro b0 (And.intro b1 (And.intro x0 (And.intro x1 cx))))))
          have hw : IntKind.i64.wrap ((y1 : Int) + (y2 : Int)) = (y1 : Int) + (y2 : Int) := IntWalk.i64_in _ (by omega)
          have hHl : H.length ≤ 400 := by rw [HH.out]; simp; omega
          have HNE := hid (show ∀ d, d < V.heap.size → some d ≠ (Value.slice A2 H.length c2).ownBlock from fun d hd e => by have := (HR3.out.own.block _ e.symm).1; omega)
          clear hx hsm hfar hy1 hy2 hv
          go_wp2_with fail
          have HXE0 := hid ((Ext.refl wr).drew)
          refine wp_region_split 21 (by kernel_rfl) rfl rfl (by kernel_rfl) (fun w' => w'.cell? ⟨b, 0, none⟩ = some (.slice A n c) ∧ w'.cell? ⟨b, 1, none⟩ = some (.slice B k d) ∧ w'.cell? ⟨b + 1, 0, none⟩ = some (.slice A' n' c') ∧ w'.cell? ⟨b + 1, 1, none⟩ = some (.slice B' k' d') ∧ w'.cell? ⟨b + 1 + 1 + 1, 0, none⟩ = some (.slice (some ⟨gb, off, none⟩) N2 c1) ∧ w'.cell? ⟨b + 1 + 1 + 1, 1, none⟩ = some (.slice A2 H.length c2) ∧ w'.cell? ⟨gb, off + q, none⟩ = some (.int .u32 x)) ⟨a0, a1, b0, b1, x0, x1, cx⟩ (fun hSE0 => ?_)
          refine wpAnyH_takeL (i := 0) (v := ?Ev0x1) rfl (by kernel_rfl) (by kernel_rfl) (by kernel_rfl) (fun _ _ _ h => h) (Or.inl ⟨by rfl, ?Ey0x1⟩) (by assumption) ?Er0x1
          case Ey0x1 => first | (intro w hSw; (try dsimp only at hSw); go_simp; done) | (intro w hSw; (try dsimp only at hSw); go_simp; with_reducible rfl)
          case' Er0x1 => try simp only [Act.put, List.setIfInBounds_toArray, List.set_cons_zero, List.set_cons_succ]
          refine wpAnyH_takeL (i := 1) (v := ?Ev1x2) rfl (by kernel_rfl) (by kernel_rfl) (by kernel_rfl) (fun _ _ _ h => h) (Or.inl ⟨by rfl, ?Ey1x2⟩) (by assumption) ?Er1x2
          case Ey1x2 => first | (intro w hSw; (try dsimp only at hSw); go_simp; done) | (intro w hSw; (try dsimp only at hSw); go_simp; with_reducible rfl)
          case' Er1x2 => try simp only [Act.put, List.setIfInBounds_toArray, List.set_cons_zero, List.set_cons_succ]
          refine wpAnyH_takeL (i := 2) (v := ?Ev2x3) rfl (by kernel_rfl) (by kernel_rfl) (by kernel_rfl) (fun _ _ _ h => h) (Or.inl ⟨by rfl, ?Ey2x3⟩) (by assumption) ?Er2x3
          case Ey2x3 => first | (intro w hSw; (try dsimp only at hSw); go_simp; done) | (intro w hSw; (try dsimp only at hSw); go_simp; with_reducible rfl)
          case' Er2x3 => try simp only [Act.put, List.setIfInBounds_toArray, List.set_cons_zero, List.set_cons_succ]
          refine wpAnyH_takeL (i := 3) (v := ?Ev3x4) rfl (by kernel_rfl) (by kernel_rfl) (by kernel_rfl) (fun _ _ _ h => h) (Or.inl ⟨by rfl, ?Ey3x4⟩) (by assumption) ?Er3x4
          case Ey3x4 => first | (intro w hSw; (try dsimp only at hSw); go_simp; done) | (intro w hSw; (try dsimp only at hSw); go_simp; with_reducible rfl)
          case' Er3x4 => try simp only [Act.put, List.setIfInBounds_toArray, List.set_cons_zero, List.set_cons_succ]
          refine wpAnyH_takeL (i := 4) (v := ?Ev4x5) rfl (by kernel_rfl) (by kernel_rfl) (by kernel_rfl) (fun _ _ _ h => h) (Or.inl ⟨by rfl, ?Ey4x5⟩) (by assumption) ?Er4x5
          case Ey4x5 => first | (intro w hSw; (try dsimp only at hSw); go_simp; done) | (intro w hSw; (try dsimp only at hSw); go_simp; with_reducible rfl)
          case' Er4x5 => try simp only [Act.put, List.setIfInBounds_toArray, List.set_cons_zero, List.set_cons_succ]
          refine wpAnyH_takeL (i := 5) (v := ?Ev5x6) rfl (by kernel_rfl) (by kernel_rfl) (by kernel_rfl) (fun _ _ _ h => h) (Or.inl ⟨by rfl, ?Ey5x6⟩) (by assumption) ?Er5x6
          case Ey5x6 => first | (intro w hSw; (try dsimp only at hSw); go_simp; done) | (intro w hSw; (try dsimp only at hSw); go_simp; with_reducible rfl)
          case' Er5x6 => try simp only [Act.put, List.setIfInBounds_toArray, List.set_cons_zero, List.set_cons_succ]
          refine wpAnyH_takeL (i := 6) (v := ?Ev6x7) rfl (by kernel_rfl) (by kernel_rfl) (by kernel_rfl) (fun _ _ _ h => h) (Or.inl ⟨by rfl, ?Ey6x7⟩) (by assumption) ?Er6x7
          case Ey6x7 => first | (intro w hSw; (try dsimp only at hSw); go_simp; done) | (intro w hSw; (try dsimp only at hSw); go_simp; with_reducible rfl)
          case' Er6x7 => try simp only [Act.put, List.setIfInBounds_toArray, List.set_cons_zero, List.set_cons_succ]
          refine wpAnyH_takeL (i := 7) (v := ?Ev7x8) rfl (by kernel_rfl) (by kernel_rfl) (by kernel_rfl) (fun _ _ _ h => h) (Or.inl ⟨by rfl, ?Ey7x8⟩) (by assumption) ?Er7x8
          case Ey7x8 => first | (intro w hSw; (try dsimp only at hSw); go_simp; done) | (intro w hSw; (try dsimp only at hSw); go_simp; with_reducible rfl)
          case' Er7x8 => try simp only [Act.put, List.setIfInBounds_toArray, List.set_cons_zero, List.set_cons_succ]
          refine wpAnyH_takeL (i := 9) (v := ?Ev9x9) rfl (by kernel_rfl) (by kernel_rfl) (by kernel_rfl) (fun _ _ _ h => h) (Or.inl ⟨by rfl, ?Ey9x9⟩) (by assumption) ?Er9x9
          case Ey9x9 => first | (intro w hSw; (try dsimp only at hSw); go_simp; done) | (intro w hSw; (try dsimp only at hSw); go_simp; with_reducible rfl)
          case' Er9x9 => try simp only [Act.put, List.setIfInBounds_toArray, List.set_cons_zero, List.set_cons_succ]
          refine wpAnyH_takeL (i := 10) (v := ?Ev10x10) rfl (by kernel_rfl) (by kernel_rfl) (by kernel_rfl) (fun _ _ _ h => h) (Or.inl ⟨by rfl, ?Ey10x10⟩) (by assumption) ?Er10x10
          case Ey10x10 => first | (intro w hSw; (try dsimp only at hSw); go_simp; done) | (intro w hSw; (try dsimp only at hSw); go_simp; with_reducible rfl)
          case' Er10x10 => try simp only [Act.put, List.setIfInBounds_toArray, List.set_cons_zero, List.set_cons_succ]
          refine wpAnyH_takeL (i := 11) (v := ?Ev11x11) rfl (by kernel_rfl) (by kernel_rfl) (by kernel_rfl) (fun _ _ _ h => h) (Or.inl ⟨by rfl, ?Ey11x11⟩) (by assumption) ?Er11x11
          case Ey11x11 => first | (intro w hSw; (try dsimp only at hSw); go_simp; done) | (intro w hSw; (try dsimp only at hSw); go_simp; with_reducible rfl)
          case' Er11x11 => try simp only [Act.put, List.setIfInBounds_toArray, List.set_cons_zero, List.set_cons_succ]
          refine wpAnyH_takeL (i := 12) (v := ?Ev12x12) rfl (by kernel_rfl) (by kernel_rfl) (by kernel_rfl) (fun _ _ _ h => h) (Or.inl ⟨by rfl, ?Ey12x12⟩) (by assumption) ?Er12x12
          case Ey12x12 => first | (intro w hSw; (try dsimp only at hSw); go_simp; done) | (intro w hSw; (try dsimp only at hSw); go_simp; with_reducible rfl)
          case' Er12x12 => try simp only [Act.put, List.setIfInBounds_toArray, List.set_cons_zero, List.set_cons_succ]
          refine wpAnyH_takeL (i := 13) (v := ?Ev13x13) rfl (by kernel_rfl) (by kernel_rfl) (by kernel_rfl) (fun _ _ _ h => h) (Or.inl ⟨by rfl, ?Ey13x13⟩) (by assumption) ?Er13x13
          case Ey13x13 => first | (intro w hSw; (try dsimp only at hSw); go_simp; done) | (intro w hSw; (try dsimp only at hSw); go_simp; with_reducible rfl)
          case' Er13x13 => try simp only [Act.put, List.setIfInBounds_toArray, List.set_cons_zero, List.set_cons_succ]
          refine wpAnyH_takeL (i := 14) (v := ?Ev14x14) rfl (by kernel_rfl) (by kernel_rfl) (by kernel_rfl) (fun _ _ _ h => h) (Or.inl ⟨by rfl, ?Ey14x14⟩) (by assumption) ?Er14x14
          case Ey14x14 => first | (intro w hSw; (try dsimp only at hSw); go_simp; done) | (intro w hSw; (try dsimp only at hSw); go_simp; with_reducible rfl)
          case' Er14x14 => try simp only [Act.put, List.setIfInBounds_toArray, List.set_cons_zero, List.set_cons_succ]
          refine wpAnyH_ready (rs := [8]) (by kernel_rfl) (by simp) ?_
          refine (AllReadyH.consL rfl (fun K hK => ?Eb8x15) AllReadyH.nil)
          case' Eb8x15 =>
            go_simp
            go_at_call 47
            refine (hits_any _ A B n c k d bl hs (HK1.out.ext HXE0.out) (HK2.out.ext HXE0.out) x).mono ?_
            rintro e w6 ⟨rfl, hEE1⟩
            rw [HY1.out]
            have HXE1 := hid (HXE0.out.trans hEE1)
            clear hEE1
            refine hK.out _ _ (ext7 HC7.out HXE1.out) (fun hSE1 => ?_)
            clear hK K
            try simp only [Act.put, List.setIfInBounds_toArray, List.set_cons_zero, List.set_cons_succ]
            refine wpAnyH_ready (rs := [15]) (by kernel_rfl) (by simp) ?_
            refine (AllReadyH.consL rfl (fun K hK => ?Eb15x16) AllReadyH.nil)
            case' Eb15x16 =>
              go_simp
              go_at_call 47
              refine (hits_any _ A' B' n' c' k' d' bl' hs' (HK3.out.ext HXE1.out) (HK4.out.ext HXE1.out) x).mono ?_
              rintro e w7 ⟨rfl, hEE2⟩
              rw [HY2.out]
              have HXE2 := hid (HXE1.out.trans hEE2)
              clear hEE2
              refine hK.out _ _ (ext7 HC7.out HXE2.out) (fun hSE2 => ?_)
              clear hK K
              try simp only [Act.put, List.setIfInBounds_toArray, List.set_cons_zero, List.set_cons_succ]
              refine wpAnyH_takeL (i := 16) (v := ?Ev16x17) rfl (by kernel_rfl) (by kernel_rfl) (by kernel_rfl) (fun _ _ _ h => h) (Or.inl ⟨by rfl, ?Ey16x17⟩) (by assumption) ?Er16x17
              case Ey16x17 => first | (intro w hSw; (try dsimp only at hSw); go_simp; done) | (intro w hSw; (try dsimp only at hSw); go_simp; with_reducible rfl)
              case' Er16x17 => try simp only [Act.put, List.setIfInBounds_toArray, List.set_cons_zero, List.set_cons_succ]
              refine wpAnyH_takeL (i := 17) (v := ?Ev17x18) rfl (by kernel_rfl) (by kernel_rfl) (by kernel_rfl) (fun _ _ _ h => h) (Or.inl ⟨by rfl, ?Ey17x18⟩) (by assumption) ?Er17x18
              case Ey17x18 => first | (intro w hSw; (try dsimp only at hSw); go_simp; done) | (intro w hSw; (try dsimp only at hSw); go_simp; with_reducible rfl)
              case' Er17x18 => try simp only [Act.put, List.setIfInBounds_toArray, List.set_cons_zero, List.set_cons_succ]
              refine wpAnyH_ready (rs := [18]) (by kernel_rfl) (by simp) ?_
              refine (AllReadyH.consL rfl (fun K hK => ?Eb18x19) AllReadyH.nil)
              case' Eb18x19 =>
                go_simp
                refine hK.out _ _ (ext7 HC7.out (HXE2.out.alloc _)) (fun hSE3 => ?_)
                clear hK K
                try simp only [Act.put, List.setIfInBounds_toArray, List.set_cons_zero, List.set_cons_succ]
                refine wpAnyH_ready (rs := [19]) (by kernel_rfl) (by simp) ?_
                refine (AllReadyH.consL rfl (fun K hK => ?Eb19x20) AllReadyH.nil)
                case' Eb19x20 =>
                  refine step_app1 rfl (.tmp 52) (.tmp 69) 27 rfl V.heap.size 3 j0 _ 1 8 Try.underlying27 HJ.out HJ0.out HJ1.out HJ2.out rfl i64R rfl (.slice A2 H.length c2) H rfl (HR3.out.own.ext HXE2.out) (v : Int) rfl ⟨rfl, by omega, by omega⟩ (by omega) (by omega) (by exact Nat.le_trans HR3.out.gr.size HXE2.out.size) ?_
                  intro A8 c8 w8 hown8 hg8
                  have hg9 := ((HXE2.out.alloc (.cells #[.int .i64 v] 3)).grownBy (Value.slice A2 H.length c2).ownBlock).andThen hg8 (fun j hj => .inr hj)
                  have hpp := HR3.out.hits hg9 (by simp) hown8
                  have HPP := hid hpp.1
                  have HZ := hid hpp.2
                  have HG8 := hid hg9
                  clear hpp hown8 hg8 hg9
                  refine hK.out _ _ (gr7 HC7.out HG8.out HNE.out (by show b < _; omega) (by show b < _; omega) (by show b + 1 < _; omega) (by show b + 1 < _; omega) (by show b + 1 + 1 + 1 < _; omega) (by show b + 1 + 1 + 1 < _; omega) (by show gb < _; omega)) (fun hSE4 => ?_)
                  clear hK K
                  try simp only [Act.put, List.setIfInBounds_toArray, List.set_cons_zero, List.set_cons_succ]
                  refine wpAnyH_takeL (i := 20) (v := ?Ev20x21) rfl (by kernel_rfl) (by kernel_rfl) (by kernel_rfl) (fun _ _ _ h => h) (Or.inl ⟨by rfl, ?Ey20x21⟩) (by assumption) ?Er20x21
                  case Ey20x21 => first | (intro w hSw; (try dsimp only at hSw); go_simp; done) | (intro w hSw; (try dsimp only at hSw); go_simp; with_reducible rfl)
                  case' Er20x21 => try simp only [Act.put, List.setIfInBounds_toArray, List.set_cons_zero, List.set_cons_succ]
                  refine wpAnyH_done (by kernel_rfl) ?_ _
                  change wpList _ _ _ _ _ _
                  have z1 := HZ.out.1
                  have zf := HZ.out.2
                  go_wp2
                  first
                    | go_roundw
                    | refine ⟨?rel, ?measure⟩
                  case rel => exact ⟨q + 1, A8, c8, H ++ [(v : Int)], by omega, by go_num, HPP, hid ((HABr.out.gr HG8.out (fun e => by have := (HR3.out.own.block _ e.symm).1; omega) (fun e => by have := (HR3.out.own.block _ e.symm).1; omega)).far (by omega)), hid (by rw [HH.out, take_snoc' HXM.out, List.map_append, List.map_cons, List.map_nil, HVV.out])⟩
                  case measure => simp [intOf]; omega
        · obtain rfl : q = N2 := by omega
          have hHe : H = mrgH bl hs bl' hs' := by rw [HH.out, List.take_of_length_le (by have := HN.out; omega), HME.out, mrgH]
          have hHl : H.length = q := by rw [HH.out]; simp; have := HN.out; omega
          have HHE := hid hHe
          rw [hHl] at x1
          have hbl : b + 1 + 1 < V.heap.size := by omega
          have r0 := (grown_cell HR3.out.gr (q := ⟨b + 1 + 1, 0, none⟩) hbl (by simp)).trans HR.out.r0
          have r1 := (grown_cell HR3.out.gr (q := ⟨b + 1 + 1, 1, none⟩) hbl (by simp)).trans HR.out.r1
          have f0 := (grown_frozen HR3.out.gr (q := ⟨b + 1 + 1, 0, none⟩) hbl (by simp)).trans (HR.out.fr 0)
          have f1 := (grown_frozen HR3.out.gr (q := ⟨b + 1 + 1, 1, none⟩) hbl (by simp)).trans (HR.out.fr 1)
          have hsm := HSM.out.keep (w' := wr) (fun d hd hc => HR3.out.gr.block d hd.2 (fun e => hd.1.2 (by injection e)))
          have HS1 := hid ((hsm.mono (S' := fun d => d ≠ b + 1 + 1) (fun d hd _ => hd.1.1)).keep (w' := (wr.setCell ⟨b + 1 + 1, 0, none⟩ (.slice A1 q c1)).setCell ⟨b + 1 + 1, 1, none⟩ (.slice A2 q c2)) (fun d hd _ => by rw [Below.heap_setCell _ _ _ d hd, Below.heap_setCell _ _ _ d hd]))
          have HS2 := hid ((show Sl i64R wr (fun d => d ≠ b + 1 + 1) (.slice A2 H.length c2) H from HR3.out.own.slT (fun _ h => h.elim) (fun d hd => by have := (HR3.out.own.block d hd).1; omega)).keep (w' := (wr.setCell ⟨b + 1 + 1, 0, none⟩ (.slice A1 q c1)).setCell ⟨b + 1 + 1, 1, none⟩ (.slice A2 q c2)) (fun d hd _ => by rw [Below.heap_setCell _ _ _ d hd, Below.heap_setCell _ _ _ d hd]))
          have HXF := hid (HR.out.ext.grown HR3.out.gr (fun d hd => by injection hd with hd; rw [← hd, HB.out]; omega))
          have hml : (mrgB bl hs bl' hs').length = q := by rw [← HME.out]; exact HN.out
          have HML := hid hml
          have HHL := hid hHl
          clear hsm hml hHl hHe
          go_wp2
          refine bodyPost_ret (v := .agg #[.slice A1 q c1, .slice A2 q c2]) (by simp [results, Try.results31, go_sem, World.cell?_setCell_same, World.cell?_setCell_other, r0, r1]) rfl ?_
          refine ⟨(HXF.out.setCell (by rw [HB.out]; simp; omega) _).setCell (by rw [HB.out]; simp; omega) _, A1, c1, A2, c2, by rw [HML.out], ?_, ?_⟩
          · have h := HS1.out.all
            rw [HME.out, HML.out] at h
            rw [HML.out]
            exact h
          · have h := HS2.out.all
            rw [HHL.out, HHE.out] at h
            rw [HML.out]
            exact h
end Go.Proofs.Ytcddmggefmfkkaa
