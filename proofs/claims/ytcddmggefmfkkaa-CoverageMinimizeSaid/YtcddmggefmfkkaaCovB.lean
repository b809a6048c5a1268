/- coverage: all, Merge. -/
import Derived.Test.YtcddmggefmfkkaaCovA
namespace Go.Proofs.Ytcddmggefmfkkaa
open Go.RowKit Go.Deco
set_option linter.unusedSimpArgs false
set_option linter.unusedVariables false

theorem Sl.i64_at {w : World} {S : Nat → Prop} {A : Option Addr} {n c k : Nat} {l : List Int} {x : Int} (h : Sl i64R w S (.slice A n c) l) (hk : l[k]? = some x) :
    ∃ b off, A = some ⟨b, off, none⟩ ∧ w.cell? ⟨b, off + k, none⟩ = some (.int .i64 x) ∧ -9223372036854775808 ≤ x ∧ x ≤ 9223372036854775807 := by
  obtain ⟨b, off, cs, hA, ⟨hcs, hb⟩, hc⟩ := h.get hk
  subst hcs
  exact ⟨b, off, hA, by simpa [i64R] using hc 0 _ rfl, hb⟩
theorem pairs_step {bl : List Nat} {hs : List Int} {j x : Nat} {y : Int} (hx : bl[j]? = some x) (hy : hs[j]? = some y) : (pairs bl hs).take (j + 1) = (pairs bl hs).take j ++ [(x, y)] :=
  take_snoc' (by
    rw [pairs, List.getElem?_zip_eq_some]
    exact ⟨hx, hy⟩)
theorem pairs_past {bl : List Nat} {hs : List Int} {j : Nat} (hj : hs.length ≤ j) : (pairs bl hs).take (j + 1) = (pairs bl hs).take j := by
  have : (pairs bl hs).length ≤ j := by
    rw [pairs, List.length_zip]
    omega
  rw [List.take_of_length_le this, List.take_of_length_le (by omega)]

def AllPost (w : World) (m q : Nat) (p : List (Nat × Int)) (e : Ending) (w' : World) : Prop :=
  e = .returned (.tuple #[]) ∧ w.grownBy w' (some m) ∧ ∃ q', q' ≤ q ∧ MapG (u32K Try.underlying36) w' m q' (cntF p)

set_option maxRecDepth 100000 in
set_option maxHeartbeats 2000000 in
theorem all_any (w : World) (m q : Nat) (p : List (Nat × Int)) (hm : MapG (u32K Try.underlying36) w m q (cntF p)) (A B : Option Addr) (n c k d : Nat) (bl : List Nat) (hs : List Int) (hb : Sl u32R w All (.slice A n c) bl) (hh : Sl i64R w All (.slice B k d) hs) (hq : q + n ≤ 1000000) :
    Calls Try.prog 46 #[.map (some m), .agg #[.slice A n c, .slice B k d]] w (AllPost w m (q + n) (p ++ pairs bl hs)) := by
  have HM := hid hm; clear hm
  have HB := hid hb
  have HH := hid hh
  have HN := hid hb.len
  have HK := hid hh.len
  have hcb := hb.cap
  have hcb1 := hcb.1
  have hcb2 := hcb.2
  have hch := hh.cap
  have hch1 := hch.1
  have hch2 := hch.2
  clear hb hh hcb hch
  obtain ⟨W0, hW0⟩ : ∃ W0, w.alloc (.cells #[.slice A n c, .slice B k d] 31) = W0 := ⟨_, rfl⟩
  have hE0 : Ext w W0 := by rw [← hW0]; exact (Ext.refl w).alloc _
  have hs0 : W0.heap.size = w.heap.size + 1 := by rw [← hW0]; simp
  have c0 : W0.cell? ⟨w.heap.size, 0, none⟩ = some (.slice A n c) := by rw [← hW0]; simp [go_sem]
  have c1 : W0.cell? ⟨w.heap.size, 1, none⟩ = some (.slice B k d) := by rw [← hW0]; simp [go_sem]
  have HE0 := hid hE0
  have HS0 := hid hs0
  have HC0 := hid c0
  have HC1 := hid c1
  clear hE0 hs0
  go_enter Try.func46, Try.ntmps46
  go_wp2
  clear hW0
  have HMW := hid (HM.out.ext HE0.out)
  clear c0 c1
  go_loopw [9] (fun i wr => ∃ (j q' : Nat), j ≤ n ∧ i = .int .i64 j ∧ q' ≤ q + j ∧ Hid (W0.grownBy wr (some m)) ∧ Hid (MapG (u32K Try.underlying36) wr m q' (cntF (p ++ (pairs bl hs).take j)))) (fun i _ => n - (intOf i).toNat)
  case atStart => exact ⟨0, q, by omega, rfl, by omega, hid (World.grownBy.refl _ _), hid (by simpa using HMW.out)⟩
  case round =>
    obtain ⟨j, q', hj, rfl, hq', HG, HMR⟩ := hrel
    have c0 := HMW.out.cell HG.out HC0.out
    have c1 := HMW.out.cell HG.out HC1.out
    by_cases h1 : j < n
    · obtain ⟨x, hx⟩ : ∃ x, bl[j]? = some x := ⟨_, List.getElem?_eq_getElem (by have := HN.out; omega)⟩
      have hbr := HMW.out.sl HG.out (HB.out.ext HE0.out)
      obtain ⟨b, off, rfl, cx, hx32⟩ := hbr.num_at hx
      have HX := hid hx
      clear hbr hx
      by_cases h2 : j < k
      · obtain ⟨y, hy⟩ : ∃ y, hs[j]? = some y := ⟨_, List.getElem?_eq_getElem (by have := HK.out; omega)⟩
        have hhr := HMW.out.sl HG.out (HH.out.ext HE0.out)
        obtain ⟨b', off', rfl, cy, -⟩ := Sl.i64_at hhr hy
        have hst := pairs_step HX.out hy
        have HST := hid hst
        clear hhr hy hst
        go_wp2_with fail
        refine (add_any wr m q' _ HMR.out (by omega) x hx32 y).mono ?_
        rintro e w3 ⟨rfl, hg3, hm3⟩
        rw [List.append_assoc, ← HST.out] at hm3
        have HG3 := hid (HG.out.andThen hg3 (fun j hj => .inr hj))
        have HM3 := hid hm3
        clear hg3 hm3 c0 c1 cx cy
        go_wp2
        first
          | go_roundw
          | refine ⟨?rel, ?measure⟩
        case rel => exact ⟨j + 1, q' + 1, by omega, by go_num, by omega, HG3, HM3⟩
        case measure => simp [intOf]; omega
      · have HST := hid (pairs_past (bl := bl) (hs := hs) (j := j) (by have := HK.out; omega))
        go_wp2
        first
          | go_roundw
          | refine ⟨?rel, ?measure⟩
        case rel => exact ⟨j + 1, q', by omega, by go_num, by omega, HG, hid (by rw [HST.out]; exact HMR.out)⟩
        case measure => simp [intOf]; omega
    · obtain rfl : j = n := by omega
      have he : (pairs bl hs).take j = pairs bl hs := List.take_of_length_le (by
        rw [pairs, List.length_zip]
        have := HN.out
        omega)
      have hmr := HMR.out
      rw [he] at hmr
      have HMX := hid hmr
      clear hmr he
      go_wp2
      (try simp only [Exit.inBlock, Exit.then]); refine bodyPost_ret (results_none rfl _ _ _) rfl ?_
      exact ⟨rfl, (HE0.out.grownBy (some m)).andThen HG.out (fun j hj => .inr hj), q', hq', HMX.out⟩

/-- A cover as a value. -/
def CovVal (w : World) (bl : List Nat) (hs : List Int) (v : Value) : Prop :=
  ∃ A n c B k d, v = .agg #[.slice A n c, .slice B k d] ∧ Sl u32R w All (.slice A n c) bl ∧ Sl i64R w All (.slice B k d) hs
theorem CovVal.ext {w w' : World} {bl : List Nat} {hs : List Int} {v : Value} (h : CovVal w bl hs v) (he : Ext w w') : CovVal w' bl hs v := by
  obtain ⟨A, n, c, B, k, d, rfl, h1, h2⟩ := h
  exact ⟨A, n, c, B, k, d, rfl, h1.ext he, h2.ext he⟩
def mergeP (b1 : List Nat) (h1 : List Int) (b2 : List Nat) (h2 : List Int) : List (Nat × Int) := pairs b1 h1 ++ pairs b2 h2
/-- A cover is handed back. -/
def CovIs (w : World) (bl : List Nat) (hs : List Int) (e : Ending) (w' : World) : Prop :=
  Ext w w' ∧ ∃ A1 c1 A2 c2, e = .returned (.agg #[.slice A1 bl.length c1, .slice A2 bl.length c2]) ∧ Sl u32R w' All (.slice A1 bl.length c1) bl ∧ Sl i64R w' All (.slice A2 bl.length c2) hs
theorem pairs_fst {bl : List Nat} {hs : List Int} {a : Nat} (h : a ∈ (pairs bl hs).map Prod.fst) : a ∈ bl := by
  obtain ⟨p, hp, rfl⟩ := List.mem_map.1 h
  obtain ⟨x, y⟩ := p
  exact (List.of_mem_zip hp).1
theorem pairs_len (bl : List Nat) (hs : List Int) : (pairs bl hs).length ≤ bl.length := by
  rw [pairs, List.length_zip]
  omega
theorem cntF_nil : cntF [] = fun _ => none := rfl

set_option maxRecDepth 100000 in
set_option maxHeartbeats 2000000 in
theorem merge_any (w : World) (A B A' B' : Option Addr) (n c k d n' c' k' d' : Nat) (bl bl' : List Nat) (hs hs' : List Int) (h1 : Sl u32R w All (.slice A n c) bl) (h2 : Sl i64R w All (.slice B k d) hs) (h3 : Sl u32R w All (.slice A' n' c') bl') (h4 : Sl i64R w All (.slice B' k' d') hs') (hn : n ≤ 200) (hn' : n' ≤ 200) :
    Calls Try.prog 29 #[.agg #[.slice A n c, .slice B k d], .agg #[.slice A' n' c', .slice B' k' d']] w (CovIs w (covB (mergeP bl hs bl' hs')) (covH (mergeP bl hs bl' hs'))) := by
  have hmm := @run_makeMap Try.prog
  obtain ⟨L, hL⟩ : ∃ L, mergeP bl hs bl' hs' = L := ⟨_, rfl⟩
  have hLl : L.length ≤ 1000 := by
    have e1 := pairs_len bl hs
    have e2 := pairs_len bl' hs'
    have e3 := h1.len
    have e4 := h3.len
    rw [← hL, mergeP, List.length_append]
    omega
  have hL32 : ∀ a ∈ L.map Prod.fst, a < 4294967296 := by
    intro a ha
    rw [← hL, mergeP, List.map_append, List.mem_append] at ha
    rcases ha with ha | ha
    · exact h1.num_lt a (pairs_fst ha)
    · exact h3.num_lt a (pairs_fst ha)
  rw [hL]
  have HL := hid hL
  have HL32 := hid hL32
  have H1 := hid h1
  have H2 := hid h2
  have H3 := hid h3
  have H4 := hid h4
  clear hL hL32 h1 h2 h3 h4
  obtain ⟨W0, hW0⟩ : ∃ W0, (((w.alloc (.cells #[.slice A n c, .slice B k d] 31)).alloc (.cells #[.slice A' n' c', .slice B' k' d'] 31)).alloc (.cells #[.slice none 0 0, .slice none 0 0] 31)).alloc (.map #[] 0) = W0 := ⟨_, rfl⟩
  have hE0 : Ext w W0 := by rw [← hW0]; exact ((((Ext.refl w).alloc _).alloc _).alloc _).alloc _
  have hs0 : W0.heap.size = w.heap.size + 1 + 1 + 1 + 1 := by rw [← hW0]; simp
  have c0 : W0.cell? ⟨w.heap.size, 0, none⟩ = some (.slice A n c) := by rw [← hW0]; simp [go_sem]
  have c1 : W0.cell? ⟨w.heap.size, 1, none⟩ = some (.slice B k d) := by rw [← hW0]; simp [go_sem]
  have c2 : W0.cell? ⟨w.heap.size + 1, 0, none⟩ = some (.slice A' n' c') := by rw [← hW0]; simp [go_sem]
  have c3 : W0.cell? ⟨w.heap.size + 1, 1, none⟩ = some (.slice B' k' d') := by rw [← hW0]; simp [go_sem]
  have r0 : W0.cell? ⟨w.heap.size + 1 + 1, 0, none⟩ = some (.slice none 0 0) := by rw [← hW0]; simp [go_sem]
  have r1 : W0.cell? ⟨w.heap.size + 1 + 1, 1, none⟩ = some (.slice none 0 0) := by rw [← hW0]; simp [go_sem]
  have f0 : W0.frozen? ⟨w.heap.size + 1 + 1, 0, none⟩ = false := by rw [← hW0]; simp [go_sem]
  have f1 : W0.frozen? ⟨w.heap.size + 1 + 1, 1, none⟩ = false := by rw [← hW0]; simp [go_sem]
  have hm : MapG (u32K Try.underlying36) W0 (w.heap.size + 1 + 1 + 1) 0 (cntF []) := by
    rw [← hW0]
    have h := MapG.made (u32K Try.underlying36) (((w.alloc (.cells #[.slice A n c, .slice B k d] 31)).alloc (.cells #[.slice A' n' c', .slice B' k' d'] 31)).alloc (.cells #[.slice none 0 0, .slice none 0 0] 31))
    simp only [World.size_alloc] at h
    exact h
  have HE0 := hid hE0
  have HS0 := hid hs0
  have HC := hid (And.intro c2 (And.intro c3 (And.intro r0 (And.intro r1 (And.intro f0 f1)))))
  have HM := hid hm
  clear hE0 hs0 c2 c3 r0 r1 f0 f1 hm
  go_enter Try.func29, Try.ntmps29
  go_wp2_with fail
  refine (all_any W0 (w.heap.size + 1 + 1 + 1) 0 [] HM.out A B n c k d bl hs (H1.out.ext HE0.out) (H2.out.ext HE0.out) (by omega)).mono ?_
  rintro e w1 ⟨rfl, hg1, q1, hq1, hm1⟩
  clear hW0 c0 c1
  have HG1 := hid hg1
  have HM1 := hid hm1
  have c2 := HM.out.cell HG1.out HC.out.1
  have c3 := HM.out.cell HG1.out HC.out.2.1
  clear hg1 hm1
  go_wp2_with fail
  refine (all_any w1 (w.heap.size + 1 + 1 + 1) q1 _ HM1.out A' B' n' c' k' d' bl' hs' (HM.out.sl HG1.out (H3.out.ext HE0.out)) (HM.out.sl HG1.out (H4.out.ext HE0.out)) (by omega)).mono ?_
  rintro e w2 ⟨rfl, hg2, q2, hq2, hm2⟩
  rw [List.nil_append, show pairs bl hs ++ pairs bl' hs' = L from HL.out] at hm2
  have HG2 := hid (HG1.out.andThen hg2 (fun j hj => .inr hj))
  have HM2 := hid hm2
  clear hg2 hm2 c2 c3
  go_wp2_with fail
  refine (cover_any w2 (w.heap.size + 1 + 1 + 1) q2 L HM2.out hLl HL32.out).mono ?_
  rintro e w3 ⟨hx3, A1, c1, A2, c2, rfl, hs1, hs2⟩
  have r0 := hx3.cell (HM.out.cell HG2.out HC.out.2.2.1)
  have r1 := hx3.cell (HM.out.cell HG2.out HC.out.2.2.2.1)
  have hlt : w.heap.size + 1 + 1 < w2.heap.size := by have := HG2.out.size; have := HS0.out; omega
  have hlt0 : w.heap.size + 1 + 1 < W0.heap.size := by have := HS0.out; omega
  have f0 := (hx3.frozen (p := ⟨w.heap.size + 1 + 1, 0, none⟩) hlt).trans ((grown_frozen HG2.out (q := ⟨w.heap.size + 1 + 1, 0, none⟩) hlt0 (by simp)).trans HC.out.2.2.2.2.1)
  have f1 := (hx3.frozen (p := ⟨w.heap.size + 1 + 1, 1, none⟩) hlt).trans ((grown_frozen HG2.out (q := ⟨w.heap.size + 1 + 1, 1, none⟩) hlt0 (by simp)).trans HC.out.2.2.2.2.2)
  have hlt3 : w.heap.size + 1 + 1 < w3.heap.size := by have := hx3.size; omega
  have hX : Ext w w3 := (HE0.out.grown HG2.out (fun k hk => by cases hk; omega)).trans hx3
  have S1 := hid (hs1.keep (w' := (w3.setCell ⟨w.heap.size + 1 + 1, 0, none⟩ (.slice A1 (covB L).length c1)).setCell ⟨w.heap.size + 1 + 1, 1, none⟩ (.slice A2 (covB L).length c2)) (fun b hb hc => by
    rw [Below.heap_setCell _ _ _ b (by simp; omega), Below.heap_setCell _ _ _ b (by simp; omega)]))
  have S2 := hid (hs2.keep (w' := (w3.setCell ⟨w.heap.size + 1 + 1, 0, none⟩ (.slice A1 (covB L).length c1)).setCell ⟨w.heap.size + 1 + 1, 1, none⟩ (.slice A2 (covB L).length c2)) (fun b hb hc => by
    rw [Below.heap_setCell _ _ _ b (by simp; omega), Below.heap_setCell _ _ _ b (by simp; omega)]))
  have HX := hid hX
  clear hx3 hs1 hs2 hX
  go_wp2
  refine bodyPost_ret (v := .agg #[.slice A1 (covB L).length c1, .slice A2 (covB L).length c2]) (by simp [results, Try.results29, go_sem, World.cell?_setCell_same, World.cell?_setCell_other, r0, r1]) rfl ?_
  exact ⟨(HX.out.setCell (by simp; omega) _).setCell (by simp; omega) _, A1, c1, A2, c2, rfl, S1.out.all, S2.out.all⟩
end Go.Proofs.Ytcddmggefmfkkaa
