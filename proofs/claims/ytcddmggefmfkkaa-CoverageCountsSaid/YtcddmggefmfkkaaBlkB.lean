/- decompilerref45.Blocks; CoverageBlocks: the law's walk. -/
import Derived.Test.YtcddmggefmfkkaaBlkA
import Derived.Test.YtcddmggefmfkkaaInpA
import Derived.Test.YtcddmggefmfkkaaInsS
import Derived.Test.YtcddmggefmfkkaaSplit
import Derived.StillTailTactics
namespace Go.Proofs.Ytcddmggefmfkkaa
open Go.RowKit Go.Deco
set_option linter.unusedSimpArgs false
set_option linter.unusedVariables false

/-! ### the plain law -/
def refB (l tr : List Nat) : List Nat := asc (l.filter fun a => tr.contains a)
def refH (l tr : List Nat) : List Int := (refB l tr).map fun a => ((tr.count a : Nat) : Int)
theorem traced_tot (l tr : List Nat) (a : Nat) : tot (traced l tr) a = if a ∈ l then tr.count a else 0 := by
  rw [traced, tot_ones]
  split
  · rename_i h
    rw [List.count_filter (by simpa using h)]
  · rename_i h
    rw [List.count_eq_zero]
    intro hm
    exact h (by simpa using (List.mem_filter.1 hm).2)
theorem ref_same {l tr : List Nat} (ht : tr.length ≤ 60) : covB (traced l tr) = refB l tr ∧ covH (traced l tr) = refH l tr := by
  have hb : covB (traced l tr) = refB l tr := pw_ext (asc_pw _) (asc_pw _) fun a => by
    rw [covB_mem, refB, asc_mem, List.mem_filter, traced_tot]
    split
    · rename_i h
      rw [List.count_pos_iff]
      simp [h]
    · rename_i h
      simp [h]
  refine ⟨hb, ?_⟩
  rw [covH, refH, hb]
  refine List.map_congr_left fun a ha => ?_
  rw [refB, asc_mem, List.mem_filter] at ha
  rw [traced_tot, if_pos ha.1]
  have := List.count_le_length (l := tr) (a := a)
  unfold capH
  omega

/-- The reference's cover in the making. -/
structure RCv (b : Nat) (w0 wr : World) (A : Option Addr) (c : Nat) (M : List Nat) : Prop where
  ext : Ext w0 wr
  base : w0.heap.size ≤ b
  r0 : wr.cell? ⟨b, 0, none⟩ = some (.slice none 0 0)
  r1 : wr.cell? ⟨b, 1, none⟩ = some (.slice none 0 0)
  fr : ∀ i, wr.frozen? ⟨b, i, none⟩ = false
  x0 : wr.cell? ⟨b + 1, 0, none⟩ = some (.slice A M.length c)
  x1 : wr.cell? ⟨b + 1, 1, none⟩ = some (.slice none 0 0)
  fx : ∀ i, wr.frozen? ⟨b + 1, i, none⟩ = false
  sl : Sl u32R wr (fun d => d ≠ b ∧ d ≠ b + 1) (.slice A M.length c) M
theorem RCv.ext2 {b : Nat} {w0 wr w' : World} {A : Option Addr} {c : Nat} {M : List Nat} (h : RCv b w0 wr A c M) (he : Ext wr w') : RCv b w0 w' A c M where
  ext := h.ext.trans he
  base := h.base
  r0 := he.cell h.r0
  r1 := he.cell h.r1
  fr i := (he.frozen (p := ⟨b, i, none⟩) (by have := World.block_lt_of_cell? _ _ h.r0; exact this)).trans (h.fr i)
  x0 := he.cell h.x0
  x1 := he.cell h.x1
  fx i := (he.frozen (p := ⟨b + 1, i, none⟩) (by have := World.block_lt_of_cell? _ _ h.x0; exact this)).trans (h.fx i)
  sl := h.sl.ext he
theorem RCv.put {b : Nat} {w0 wr : World} {A A' : Option Addr} {c c' : Nat} {M M' : List Nat} (h : RCv b w0 wr A c M) (hs : Sl u32R wr (fun d => d ≠ b ∧ d ≠ b + 1) (.slice A' M'.length c') M') : RCv b w0 (wr.setCell ⟨b + 1, 0, none⟩ (.slice A' M'.length c')) A' c' M' where
  ext := h.ext.setCell (by have := h.base; show w0.heap.size ≤ b + 1; omega) _
  base := h.base
  r0 := (World.cell?_setCell_other _ _ _ _ (by simp)).trans h.r0
  r1 := (World.cell?_setCell_other _ _ _ _ (by simp)).trans h.r1
  fr i := by rw [World.frozen?_setCell]; exact h.fr i
  x0 := World.cell?_setCell_same' _ _ _ (by rw [h.x0]; rfl)
  x1 := (World.cell?_setCell_other _ _ _ _ (by simp)).trans h.x1
  fx i := by rw [World.frozen?_setCell]; exact h.fx i
  sl := hs.keep fun d hd _ => by rw [Below.heap_setCell _ _ _ d hd.2]

/-- .. its hits. -/
structure RC2 (b : Nat) (V wr : World) (A1 : Option Addr) (N c1 : Nat) (A2 : Option Addr) (c2 : Nat) (H : List Int) : Prop where
  gr : V.grownBy wr (some (b + 1))
  lt : b + 1 < V.heap.size
  x0 : wr.cell? ⟨b + 1, 0, none⟩ = some (.slice A1 N c1)
  x1 : wr.cell? ⟨b + 1, 1, none⟩ = some (.slice A2 H.length c2)
  fx : ∀ i, wr.frozen? ⟨b + 1, i, none⟩ = false
  own : OwnS i64R wr V.heap.size 3 Nowhere (.slice A2 H.length c2) H
theorem RC2.ext2 {b : Nat} {V wr w' : World} {A1 : Option Addr} {N c1 : Nat} {A2 : Option Addr} {c2 : Nat} {H : List Int} (h : RC2 b V wr A1 N c1 A2 c2 H) (he : Ext wr w') : RC2 b V w' A1 N c1 A2 c2 H where
  gr := h.gr.andThen (he.grownBy (some (b + 1))) (fun j hj => .inr hj)
  lt := h.lt
  x0 := he.cell h.x0
  x1 := he.cell h.x1
  fx i := (he.frozen (p := ⟨b + 1, i, none⟩) (by have := World.block_lt_of_cell? _ _ h.x0; exact this)).trans (h.fx i)
  own := h.own.ext he
theorem RC2.hits {b : Nat} {V wr w5 : World} {A1 : Option Addr} {N c1 : Nat} {A2 A5 : Option Addr} {c2 c5 n5 : Nat} {H H5 : List Int} (h : RC2 b V wr A1 N c1 A2 c2 H) (hg : wr.grownBy w5 (Value.slice A2 H.length c2).ownBlock) (hn : H5.length = n5) (ho : OwnS i64R w5 V.heap.size 3 Nowhere (.slice A5 n5 c5) H5) :
    RC2 b V (w5.setCell ⟨b + 1, 1, none⟩ (.slice A5 n5 c5)) A1 N c1 A5 c5 H5 ∧ w5.cell? ⟨b + 1, 1, none⟩ = some (.slice A2 H.length c2) ∧ w5.frozen? ⟨b + 1, 1, none⟩ = false := by
  subst hn
  have hob := h.own.block
  have hlt : b + 1 < wr.heap.size := Nat.lt_of_lt_of_le h.lt h.gr.size
  have hne : some (b + 1) ≠ (Value.slice A2 H.length c2).ownBlock := fun e => by have := (hob (b + 1) e.symm).1; have := h.lt; omega
  have x0 := (grown_cell hg (q := ⟨b + 1, 0, none⟩) hlt hne).trans h.x0
  have x1 := (grown_cell hg (q := ⟨b + 1, 1, none⟩) hlt hne).trans h.x1
  have xf : ∀ i, w5.frozen? ⟨b + 1, i, none⟩ = false := fun i => (grown_frozen hg (q := ⟨b + 1, i, none⟩) hlt hne).trans (h.fx i)
  refine ⟨⟨?_, h.lt, (World.cell?_setCell_other _ _ _ _ (by simp)).trans x0, World.cell?_setCell_same' _ _ _ (by rw [x1]; rfl), fun i => by rw [World.frozen?_setCell]; exact xf i, ?_⟩, x1, xf 1⟩
  · refine ⟨hg.os.trans h.gr.os, hg.tape.trans h.gr.tape, hg.output.trans h.gr.output, by simpa using Nat.le_trans h.gr.size hg.size, fun k hk hkb => ?_⟩
    exact (Below.heap_setCell _ _ _ k (fun e => hkb (congrArg some e))).trans ((hg.block k (Nat.lt_of_lt_of_le hk h.gr.size) (fun e => by have := (hob k e.symm).1; omega)).trans (h.gr.block k hk hkb))
  · exact ho.set_far (fun e => by have := (ho.block (b + 1) e).1; have := h.lt; omega) fun b hb => hb.elim
theorem count_step {tr : List Nat} {i y a : Nat} (h : tr[i]? = some y) : (tr.take (i + 1)).count a = (tr.take i).count a + if y = a then 1 else 0 := by
  rw [take_snoc' h, List.count_append, List.count_singleton]
  by_cases e : y = a <;> simp [e]

set_option maxRecDepth 100000 in
set_option maxHeartbeats 4000000 in
theorem rblocks_any (w : World) (A B : Option Addr) (n c k d : Nat) (l tr : List Nat) (hl : Sl basR w All (.slice A n c) l) (ht : Sl u32R w All (.slice B k d) tr) (hn : n ≤ 200) (hk : k ≤ 200) :
    Calls Try.prog 16 #[.slice A n c, .slice B k d] w (CovIs w (refB l tr) (refH l tr)) := by
  have hln := hl.len
  have htn := ht.len
  obtain ⟨hnc, hcm⟩ := hl.cap
  obtain ⟨hkc, hkm⟩ := ht.cap
  obtain ⟨W0, hW0⟩ : ∃ W0, (w.alloc (.cells #[.slice none 0 0, .slice none 0 0] 29)).alloc (.cells #[.slice none 0 0, .slice none 0 0] 29) = W0 := ⟨_, rfl⟩
  have hE0 : Ext w W0 := by rw [← hW0]; exact ((Ext.refl w).alloc _).alloc _
  have HR0 : Hid (RCv w.heap.size w W0 none 0 []) := hid ⟨hE0, Nat.le_refl _, by rw [← hW0]; simp [go_sem], by rw [← hW0]; simp [go_sem], fun i => by rw [← hW0]; simp [go_sem], by rw [← hW0]; simp [go_sem], by rw [← hW0]; simp [go_sem], fun i => by rw [← hW0]; simp [go_sem], Sl.nil⟩
  have HL := hid hl
  have HT := hid ht
  have HLN := hid hln
  have HTN := hid htn
  obtain ⟨j0, hj, hj0, hj1, hj2⟩ := info_parts info_int
  have HJ := hid hj
  have HJ0 := hid hj0
  have HJ1 := hid hj1
  have HJ2 := hid hj2
  clear hl ht hln htn hE0 hj hj0 hj1 hj2
  obtain ⟨b, hb⟩ : ∃ b, w.heap.size = b := ⟨_, rfl⟩
  have HB := hid hb
  go_enter Try.func16, Try.ntmps16
  go_wp2_with fail
  clear hW0
  rw [hb] at HR0
  try rw [hb]
  clear hb
  go_loopw [6] (fun i wr => ∃ (j : Nat) (A1 : Option Addr) (c1 : Nat) (M : List Nat), j ≤ n ∧ i = .int .i64 j ∧ M.length ≤ j ∧ Hid (RCv b w wr A1 c1 M) ∧ Hid (M = refB (l.take j) tr)) (fun i _ => n - (intOf i).toNat)
  case atStart => exact ⟨0, none, 0, [], by omega, rfl, by simp, HR0, hid rfl⟩
  case round =>
    obtain ⟨j, A1, c1, M, hj, rfl, hMl, HR, HM⟩ := hrel
    by_cases h1 : j < n
    · obtain ⟨x, hx⟩ : ∃ x, l[j]? = some x := ⟨_, List.getElem?_eq_getElem (by have := HLN.out; omega)⟩
      obtain ⟨gb, off, e5, A5, n5, d5, B5, m5, d55, C5, q5, f5, rfl, hx32, y0, y1, -, -, -⟩ := Sl.bas_at (HL.out.ext HR.out.ext) hx
      have hst : refB (l.take (j + 1)) tr = if tr.contains x then insOf (refB (l.take j) tr) x else refB (l.take j) tr := by
        rw [refB, take_snoc' hx, List.filter_append, List.filter_cons]
        cases tr.contains x
        · simp [refB]
        · rw [if_pos rfl, if_pos rfl, List.filter_nil, asc_snoc, refB]
      have HST := hid hst
      have x0 := HR.out.x0
      have fx0 := HR.out.fx 0
      clear hst hx y1
      go_wp2_with fail
      refine (has_any wr All B k d tr (HT.out.ext HR.out.ext) x).mono ?_
      rintro e w' ⟨rfl, rfl⟩
      obtain ⟨r, hr⟩ : ∃ r, tr.contains x = r := ⟨_, rfl⟩
      rw [hr] at HST ⊢
      clear hr
      cases r with
      | false =>
        go_wp2
        first
          | go_roundw
          | refine ⟨?rel, ?measure⟩
        case rel => exact ⟨j + 1, A1, c1, M, by omega, by go_num, by omega, HR, hid (by rw [HM.out, HST.out]; rfl)⟩
        case measure => simp [intOf]; omega
      | true =>
        go_wp2_with fail
        refine wp_region_split 9 (by kernel_rfl) rfl rfl (by kernel_rfl) (fun w' => w'.cell? ⟨b + 1, 0, none⟩ = some (.slice A1 M.length c1) ∧ w'.cell? ⟨gb, off + j * 5, none⟩ = some (.int .u32 x)) ⟨x0, y0⟩ (fun hSR0 => ?_)
        refine wpAnyH_takeL (i := 0) (v := ?Rv0) rfl (by kernel_rfl) (by kernel_rfl) (by kernel_rfl) (fun _ _ _ h => h) (Or.inl ⟨by rfl, ?Ry0⟩) (by assumption) ?Rr0
        case Ry0 => first | (intro w hSw; (try dsimp only at hSw); go_simp; done) | (intro w hSw; (try dsimp only at hSw); go_simp; with_reducible rfl)
        case' Rr0 => try simp only [Act.put, List.setIfInBounds_toArray, List.set_cons_zero, List.set_cons_succ]
        refine wpAnyH_takeL (i := 1) (v := ?Rv1) rfl (by kernel_rfl) (by kernel_rfl) (by kernel_rfl) (fun _ _ _ h => h) (Or.inl ⟨by rfl, ?Ry1⟩) (by assumption) ?Rr1
        case Ry1 => first | (intro w hSw; (try dsimp only at hSw); go_simp; done) | (intro w hSw; (try dsimp only at hSw); go_simp; with_reducible rfl)
        case' Rr1 => try simp only [Act.put, List.setIfInBounds_toArray, List.set_cons_zero, List.set_cons_succ]
        refine wpAnyH_takeL (i := 2) (v := ?Rv2) rfl (by kernel_rfl) (by kernel_rfl) (by kernel_rfl) (fun _ _ _ h => h) (Or.inl ⟨by rfl, ?Ry2⟩) (by assumption) ?Rr2
        case Ry2 => first | (intro w hSw; (try dsimp only at hSw); go_simp; done) | (intro w hSw; (try dsimp only at hSw); go_simp; with_reducible rfl)
        case' Rr2 => try simp only [Act.put, List.setIfInBounds_toArray, List.set_cons_zero, List.set_cons_succ]
        refine wpAnyH_takeL (i := 3) (v := ?Rv3) rfl (by kernel_rfl) (by kernel_rfl) (by kernel_rfl) (fun _ _ _ h => h) (Or.inl ⟨by rfl, ?Ry3⟩) (by assumption) ?Rr3
        case Ry3 => first | (intro w hSw; (try dsimp only at hSw); go_simp; done) | (intro w hSw; (try dsimp only at hSw); go_simp; with_reducible rfl)
        case' Rr3 => try simp only [Act.put, List.setIfInBounds_toArray, List.set_cons_zero, List.set_cons_succ]
        refine wpAnyH_takeL (i := 4) (v := ?Rv4) rfl (by kernel_rfl) (by kernel_rfl) (by kernel_rfl) (fun _ _ _ h => h) (Or.inl ⟨by rfl, ?Ry4⟩) (by assumption) ?Rr4
        case Ry4 => first | (intro w hSw; (try dsimp only at hSw); go_simp; done) | (intro w hSw; (try dsimp only at hSw); go_simp; with_reducible rfl)
        case' Rr4 => try simp only [Act.put, List.setIfInBounds_toArray, List.set_cons_zero, List.set_cons_succ]
        refine wpAnyH_takeL (i := 5) (v := ?Rv5) rfl (by kernel_rfl) (by kernel_rfl) (by kernel_rfl) (fun _ _ _ h => h) (Or.inl ⟨by rfl, ?Ry5⟩) (by assumption) ?Rr5
        case Ry5 => first | (intro w hSw; (try dsimp only at hSw); go_simp; done) | (intro w hSw; (try dsimp only at hSw); go_simp; with_reducible rfl)
        case' Rr5 => try simp only [Act.put, List.setIfInBounds_toArray, List.set_cons_zero, List.set_cons_succ]
        refine wpAnyH_takeL (i := 6) (v := ?Rv6) rfl (by kernel_rfl) (by kernel_rfl) (by kernel_rfl) (fun _ _ _ h => h) (Or.inl ⟨by rfl, ?Ry6⟩) (by assumption) ?Rr6
        case Ry6 => first | (intro w hSw; (try dsimp only at hSw); go_simp; done) | (intro w hSw; (try dsimp only at hSw); go_simp; with_reducible rfl)
        case' Rr6 => try simp only [Act.put, List.setIfInBounds_toArray, List.set_cons_zero, List.set_cons_succ]
        refine wpAnyH_ready (rs := [7]) (by kernel_rfl) (by simp) ?_
        refine AllReadyH.consL rfl (fun K hK => ?_) AllReadyH.nil
        go_simp
        go_at_call 36
        refine (inserts_any (fun d => d ≠ b ∧ d ≠ b + 1) wr.drew wr.drew (Ext.refl _) (fun d hd => by have := World.block_lt_of_cell? _ _ HR.out.x0; simp at this hd; exact ⟨by omega, by omega⟩) A1 M.length c1 M (HR.out.sl.ext ((Ext.refl _).drew)) (by omega) x hx32).mono ?_
        rintro e w5 ⟨hx5, A6, c6, rfl, hs6⟩
        have HX5 := hid hx5.drew_left
        have HS6 := hid hs6
        clear hx5 hs6
        refine hK.out _ _ ⟨HX5.out.cell x0, HX5.out.cell y0⟩ (fun hSR1 => ?_)
        clear hK K
        try simp only [Act.put, List.setIfInBounds_toArray, List.set_cons_zero, List.set_cons_succ]
        refine wpAnyH_takeL (i := 8) (v := ?Rv8) rfl (by kernel_rfl) (by kernel_rfl) (by kernel_rfl) (fun _ _ _ h => h) (Or.inl ⟨by rfl, ?Ry8⟩) (by assumption) ?Rr8
        case Ry8 => first | (intro w hSw; (try dsimp only at hSw); go_simp; done) | (intro w hSw; (try dsimp only at hSw); go_simp; with_reducible rfl)
        case' Rr8 => try simp only [Act.put, List.setIfInBounds_toArray, List.set_cons_zero, List.set_cons_succ]
        refine wpAnyH_done (by kernel_rfl) ?_ _
        change wpList _ _ _ _ _ _
        have HR5 := hid (HR.out.ext2 HX5.out)
        have HP := hid (HR5.out.put HS6.out)
        clear x0 y0 fx0
        have x0 := HR5.out.x0
        have fx0 := HR5.out.fx 0
        have hil := insOf_length M x
        go_wp2
        first
          | go_roundw
          | refine ⟨?rel, ?measure⟩
        case rel => exact ⟨j + 1, A6, c6, insOf M x, by omega, by go_num, by omega, HP, hid (by rw [HM.out, HST.out]; rfl)⟩
        case measure => simp [intOf]; omega
    · obtain rfl : n = j := by omega
      have hMe : M = refB l tr := by rw [HM.out, List.take_of_length_le (by have := HLN.out; omega)]
      obtain ⟨V, hV⟩ : ∃ V, V = wr := ⟨_, rfl⟩
      subst hV
      have HME := hid hMe
      have hM2 : M.length ≤ 200 := by omega
      obtain ⟨N, hN⟩ : ∃ N, M.length = N := ⟨_, rfl⟩
      have hM2 : N ≤ 200 := by omega
      have HN := hid hN
      have hbV : b + 1 < V.heap.size := by have := World.block_lt_of_cell? _ _ HR.out.x0; exact this
      have HSM := hid (HR.out.sl.mono (S' := fun d => (d ≠ b ∧ d ≠ b + 1) ∧ d < V.heap.size) (fun d h hc => ⟨h, hc.lt⟩))
      have x0 := HR.out.x0
      rw [hN] at x0
      have HX00 := hid x0
      have hcap := HR.out.sl.cap
      obtain ⟨hcap1, hcap2⟩ := hcap
      rw [hN] at hcap1
      have HR2 : Hid (RC2 b V V A1 N c1 none 0 []) := hid ⟨World.grownBy.refl _ _, hbV, x0, HR.out.x1, HR.out.fx, OwnS.nil⟩
      clear hMe hN hMl x0
      go_wp2_with fail
      go_loopw [7] (fun i wr => ∃ (q : Nat) (A2 : Option Addr) (c2 : Nat) (H : List Int), q ≤ N ∧ i = .int .i64 q ∧ Hid (RC2 b V wr A1 N c1 A2 c2 H) ∧ Hid (H = (M.take q).map fun a => ((tr.count a : Nat) : Int))) (fun i _ => N - (intOf i).toNat)
      case atStart => exact ⟨0, none, 0, [], by omega, rfl, HR2, hid rfl⟩
      case round =>
        obtain ⟨q, A2, c2, H, hq, rfl, HR3, HH⟩ := hrel
        have x0 := HR3.out.x0
        have x1 := HR3.out.x1
        by_cases hqN : q < N
        · obtain ⟨a, ha⟩ : ∃ a, M[q]? = some a := ⟨_, List.getElem?_eq_getElem (by have := HN.out; omega)⟩
          have hsm := HSM.out.keep (w' := wr) (fun d hd hc => HR3.out.gr.block d hd.2 (fun e => hd.1.2 (by injection e)))
          obtain ⟨gb, off, rfl, ca, ha32⟩ := hsm.num_at ha
          have htr : Sl u32R wr All (.slice B k d) tr := (((HT.out.mono (S' := fun d => d < b) (fun d _ hc => by rw [← HB.out]; exact hc.lt)).ext HR.out.ext).keep (w' := wr) (fun d hd hc => HR3.out.gr.block d (by omega) (fun e => by injection e; omega))).all
          have HTR := hid htr
          have HA := hid ha
          have HCA := hid ca
          obtain ⟨U, hU⟩ : ∃ U, U = wr := ⟨_, rfl⟩
          subst hU
          have HX0 := hid x0
          have HX1 := hid x1
          clear hsm htr ha ca x1
          go_wp2_with fail
          go_loopw [8, 9] (fun v i wi => ∃ p m : Nat, p ≤ k ∧ m ≤ p ∧ v = .int .i64 m ∧ i = .int .i64 p ∧ Hid ((tr.take p).count a = m) ∧ Hid (Ext U wi)) (fun _ i _ => k - (intOf i).toNat)
          case atStart => exact ⟨0, 0, by omega, by omega, rfl, rfl, hid (by simp), hid (Ext.refl _)⟩
          case round =>
            obtain ⟨p, m, hp, hm, rfl, rfl, HM2, HXU⟩ := hrel
            have x0 := HXU.out.cell HX0.out
            have ca := HXU.out.cell HCA.out
            by_cases hpk : p < k
            · obtain ⟨y, hy⟩ : ∃ y, tr[p]? = some y := ⟨_, List.getElem?_eq_getElem (by have := HTN.out; omega)⟩
              obtain ⟨tb, toff, rfl, cy, hy32⟩ := (HTR.out.ext HXU.out).num_at hy
              have HCS := hid (count_step (a := a) hy)
              have hm1 : IntKind.i64.wrap ((m : Int) + 1) = ((m + 1 : Nat) : Int) := (IntWalk.i64_in _ (by omega)).trans (by omega)
              clear hy
              by_cases hya : y = a
              · subst hya
                have hbb : ((y : Int) == (y : Int)) = true := by simp
                go_wp2
                go_quiet (fail)
                go_wp2
                first
                  | go_roundw
                  | refine ⟨?rel, ?measure⟩
                case rel => exact ⟨p + 1, m + 1, by omega, by omega, by go_num, by go_num, hid (by rw [HCS.out, HM2.out]; simp), hid (HXU.out.drewN _)⟩
                case measure => simp [intOf]; omega
              · have hbb : ((y : Int) == (a : Int)) = false := by simp; omega
                go_wp2
                go_quiet (fail)
                go_wp2
                first
                  | go_roundw
                  | refine ⟨?rel, ?measure⟩
                case rel => exact ⟨p + 1, m, by omega, by omega, rfl, by go_num, hid (by rw [HCS.out, HM2.out, if_neg hya]; rfl), hid (HXU.out.drewN _)⟩
                case measure => simp [intOf]; omega
            · obtain rfl : p = k := by omega
              have hcn : tr.count a = m := by
                have h := HM2.out
                rw [List.take_of_length_le (by have := HTN.out; omega)] at h
                exact h
              have HCN := hid hcn
              have HR4 := hid (HR3.out.ext2 HXU.out)
              have x1 := HR4.out.x1
              have hHl : H.length ≤ 200 := by rw [HH.out]; simp; omega
              clear hcn
              go_wp2_with (first
                | (at_builtin; refine wpList_app1s rfl (.tmp 58) (.tmp 60) 27 rfl V.heap.size 3 j0 _ 1 8 Try.underlying27 HJ.out HJ0.out HJ1.out HJ2.out rfl i64R rfl (.slice A2 H.length c2) H rfl HR4.out.own wr.heap.size rfl (m : Int) rfl ⟨rfl, by omega, by omega⟩ (by omega) (by omega) (by exact HR4.out.gr.size) ?_; intro A5 c5 w5 hown5 hg5; have hpp := HR4.out.hits (((Ext.refl wr).alloc (.cells #[.int .i64 m] 3)).grownBy (Value.slice A2 H.length c2).ownBlock |>.andThen hg5 (fun j hj => .inr hj)) (by simp) hown5; have HPP := hid hpp.1; have z1 := hpp.2.1; have zf := hpp.2.2; clear hpp hown5 hg5)
                | fail)
              first
                | go_roundw
                | refine ⟨?rel, ?measure⟩
              case rel => exact ⟨q + 1, A5, c5, H ++ [(m : Int)], by omega, by go_num, HPP, hid (by rw [HH.out, take_snoc' HA.out, List.map_append, List.map_cons, List.map_nil, HCN.out])⟩
              case measure => simp [intOf]; omega
        · obtain rfl : q = N := by omega
          have hHe : H = refH l tr := by rw [HH.out, List.take_of_length_le (by have := HN.out; omega), HME.out, refH]
          have hHl : H.length = q := by rw [HH.out]; simp; have := HN.out; omega
          have HHE := hid hHe
          rw [hHl] at x1
          have hbl : b < V.heap.size := by omega
          have r0 := (grown_cell HR3.out.gr (q := ⟨b, 0, none⟩) hbl (by simp)).trans HR.out.r0
          have r1 := (grown_cell HR3.out.gr (q := ⟨b, 1, none⟩) hbl (by simp)).trans HR.out.r1
          have f0 := (grown_frozen HR3.out.gr (q := ⟨b, 0, none⟩) hbl (by simp)).trans (HR.out.fr 0)
          have f1 := (grown_frozen HR3.out.gr (q := ⟨b, 1, none⟩) hbl (by simp)).trans (HR.out.fr 1)
          have hsm := HSM.out.keep (w' := wr) (fun d hd hc => HR3.out.gr.block d hd.2 (fun e => hd.1.2 (by injection e)))
          have HS1 := hid ((hsm.mono (S' := fun d => d ≠ b) (fun d hd _ => hd.1.1)).keep (w' := (wr.setCell ⟨b, 0, none⟩ (.slice A1 q c1)).setCell ⟨b, 1, none⟩ (.slice A2 q c2)) (fun d hd _ => by rw [Below.heap_setCell _ _ _ d hd, Below.heap_setCell _ _ _ d hd]))
          have ho := HR3.out.own.sl
          have HS2 := hid ((show Sl i64R wr (fun d => d ≠ b) (.slice A2 H.length c2) H from HR3.out.own.slT (fun _ h => h.elim) (fun d hd => by have := (HR3.out.own.block d hd).1; omega)).keep (w' := (wr.setCell ⟨b, 0, none⟩ (.slice A1 q c1)).setCell ⟨b, 1, none⟩ (.slice A2 q c2)) (fun d hd _ => by rw [Below.heap_setCell _ _ _ d hd, Below.heap_setCell _ _ _ d hd]))
          have HXF := hid ((HR.out.ext.grown HR3.out.gr (fun d hd => by injection hd with hd; rw [← hd, HB.out]; omega)).trans (Ext.refl wr))
          have hml : (refB l tr).length = q := by rw [← HME.out]; exact HN.out
          have HML := hid hml
          have HHL := hid hHl
          clear hsm ho hml hHl hHe
          go_wp2
          refine bodyPost_ret (v := .agg #[.slice A1 q c1, .slice A2 q c2]) (by simp [results, Try.results16, go_sem, World.cell?_setCell_same, World.cell?_setCell_other, r0, r1]) rfl ?_
          refine ⟨(HXF.out.setCell (by rw [HB.out]; exact Nat.le_refl _) _).setCell (by rw [HB.out]; exact Nat.le_refl _) _, A1, c1, A2, c2, by rw [HML.out], ?_, ?_⟩
          · have h := HS1.out.all
            rw [HME.out, HML.out] at h
            rw [HML.out]
            exact h
          · have h := HS2.out.all
            rw [HHL.out, HHE.out] at h
            rw [HML.out]
            exact h

set_option maxRecDepth 100000 in
set_option maxHeartbeats 4000000 in
theorem blockslaw_any (w : World) (A : Option Addr) (n c : Nat) (l : List Nat) (hl : Sl basR w All (.slice A n c) l) (B : Option Addr) (k d : Nat) (tr : List Nat) (ht : Sl u32R w All (.slice B k d) tr) :
    Calls Try.prog 3 #[.slice A n c, .slice B k d] w (OneBool w true) := by
  obtain ⟨hnc, hcm⟩ := hl.cap
  obtain ⟨hkc, hkm⟩ := ht.cap
  have hln := hl.len
  have htn := ht.len
  have HL := hid hl
  have HT := hid ht
  obtain ⟨r, hr⟩ : ∃ r, fewB n k = r := ⟨_, rfl⟩
  have HR := hid hr
  have HLN := hid hln
  have HTN := hid htn
  clear hl ht hln htn hr
  go_enter Try.func3, Try.ntmps3
  go_wp2_with fail
  refine (few_any w A B n c k d).mono ?_
  rintro e w' ⟨rfl, rfl⟩
  rw [HR.out]
  cases r with
  | false =>
    go_wp2_with fail
    refine (example_any _).mono ?_
    rintro e wz ⟨rfl, hxz⟩
    have HXZ := hid hxz; clear hxz
    go_wp2
    go_ret
    exact ⟨by simp, HXZ.out⟩
  | true =>
    have hf := HR.out
    unfold fewB at hf
    simp only [Bool.and_eq_true, decide_eq_true_eq] at hf
    obtain ⟨hn, hk⟩ := hf
    have HRS := hid (ref_same (l := l) (tr := tr) (by have := HTN.out; omega))
    go_wp2_with fail
    refine (basics_any w A n c l HL.out (by omega)).mono ?_
    rintro e w1 ⟨hx1, A1, c1, rfl, hs1⟩
    have HX1 := hid hx1
    have HS1 := hid hs1
    clear hx1 hs1
    go_wp2_with fail
    refine (blocks_any w1 A1 B l.length c1 k d l tr HS1.out (HT.out.ext HX1.out) (by have := HLN.out; omega) (by omega)).mono ?_
    rintro e w2 ⟨hx2, A2, c2, A3, c3, rfl, hs2, hs3⟩
    have HX2 := hid (HX1.out.trans hx2)
    have HS2 := hid hs2
    have HS3 := hid hs3
    clear hx2 hs2 hs3
    go_wp2_with fail
    refine (toRef_any w2 A2 A3 _ c2 _ c3).mono ?_
    rintro e w3 ⟨rfl, hx3⟩
    have HX23 := hid hx3
    have HX3 := hid (HX2.out.trans hx3)
    clear hx3
    go_wp2_with fail
    refine (rblocks_any w3 A B n c k d l tr (HL.out.ext HX3.out) (HT.out.ext HX3.out) (by omega) (by omega)).mono ?_
    rintro e w4 ⟨hx4, A4, c4, A5, c5, rfl, hs4, hs5⟩
    rw [← HRS.out.1] at hs4 hs5 ⊢
    rw [← HRS.out.2] at hs5
    have HX34 := hid (HX23.out.trans hx4)
    have HX4 := hid (HX3.out.trans hx4)
    have HS4 := hid hs4
    have HS5 := hid hs5
    clear hx4 hs4 hs5
    go_wp2_with fail
    refine (same_any w4 A2 A4 A3 A5 _ c2 c4 _ c3 c5 _ _ (HS2.out.ext HX34.out) HS4.out (HS3.out.ext HX34.out) HS5.out).mono ?_
    rintro e w5 ⟨rfl, hx5⟩
    have HX5 := hid (HX4.out.trans hx5)
    clear hx5
    go_wp2_with fail
    refine (example_any _).mono ?_
    rintro e wz ⟨rfl, hxz⟩
    have HXZ := hid hxz; clear hxz
    go_wp2
    go_ret
    exact ⟨by simp, HX5.out.trans HXZ.out⟩
end Go.Proofs.Ytcddmggefmfkkaa
