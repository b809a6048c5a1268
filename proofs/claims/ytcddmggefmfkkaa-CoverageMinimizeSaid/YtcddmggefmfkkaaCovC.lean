/- coverage: Blocks and Missed. -/
import Derived.Test.YtcddmggefmfkkaaCovB
import Derived.Test.YtcddmggefmfkkaaU32I
namespace Go.Proofs.Ytcddmggefmfkkaa
open Go.RowKit Go.Deco
set_option linter.unusedSimpArgs false
set_option linter.unusedVariables false

/-- A block: its address; the rest is not looked at. -/
def basR : Rep Nat where
  size := 5
  pos := by omega
  rel _ _ cs x := ∃ (e : Nat) (A : Option Addr) (n c : Nat) (B : Option Addr) (m d : Nat) (C : Option Addr) (k f : Nat), cs = [.int .u32 x, .int .u32 e, .slice A n c, .slice B m d, .slice C k f] ∧ x < 4294967296
  keep _ h := h
  mono _ h := h
  len h := by
    obtain ⟨e, A, n, c, B, m, d, C, k, f, h1, _⟩ := h
    rw [h1]; rfl
  one h u hu := by
    obtain ⟨e, A, n, c, B, m, d, C, k, f, h1, _⟩ := h
    rw [h1] at hu
    simp at hu
    rcases hu with rfl | rfl | rfl | rfl | rfl <;> rfl
theorem Sl.bas_at {w : World} {S : Nat → Prop} {A : Option Addr} {n c k : Nat} {l : List Nat} {x : Nat} (h : Sl basR w S (.slice A n c) l) (hk : l[k]? = some x) :
    ∃ (b off e : Nat) (A1 : Option Addr) (n1 d1 : Nat) (B : Option Addr) (m d : Nat) (C : Option Addr) (q f : Nat), A = some ⟨b, off, none⟩ ∧ x < 4294967296 ∧ w.cell? ⟨b, off + k * 5, none⟩ = some (.int .u32 x) ∧ w.cell? ⟨b, off + k * 5 + 1, none⟩ = some (.int .u32 e) ∧
      w.cell? ⟨b, off + k * 5 + 2, none⟩ = some (.slice A1 n1 d1) ∧ w.cell? ⟨b, off + k * 5 + 3, none⟩ = some (.slice B m d) ∧ w.cell? ⟨b, off + k * 5 + 4, none⟩ = some (.slice C q f) := by
  obtain ⟨b, off, cs, hA, ⟨e, A1, n1, d1, B, m, d, C, q, f, hcs, hx⟩, hc⟩ := h.get hk
  subst hcs
  exact ⟨b, off, e, A1, n1, d1, B, m, d, C, q, f, hA, hx, by simpa [basR] using hc 0 _ rfl, hc 1 _ rfl, hc 2 _ rfl, hc 3 _ rfl, hc 4 _ rfl⟩
theorem zero_bool : ∀ w, (zeroValue 4).run Try.prog w = .ok (.bool false) w := fun w => by kernel_rfl
/-- A set of numbers as a map to bool. -/
def knownF (l : List Nat) : Nat → Option Value := fun x => if l.contains x then some (.bool true) else none
theorem knownF_look (l : List Nat) (x : Nat) (b : Bool) (h : l.contains x = b) : (knownF l x).getD (.bool false) = .bool b := by
  unfold knownF
  rw [h]
  cases b <;> rfl
theorem knownF_snoc (l : List Nat) (a : Nat) : ∀ x, knownF (l ++ [a]) x = if x = a then some (.bool true) else knownF l x := by
  intro x
  unfold knownF
  by_cases h : x = a
  · subst h
    rw [if_pos rfl, if_pos (by simp)]
  · rw [if_neg h]
    have : (l ++ [a]).contains x = l.contains x := by
      rw [Bool.eq_iff_iff]
      simp [h]
    rw [this]
theorem ones_snoc (l : List Nat) (x : Nat) : ones (l ++ [x]) = ones l ++ [(x, 1)] := by simp [ones]
theorem ones_fst (l : List Nat) : (ones l).map Prod.fst = l := by
  rw [ones, List.map_map]
  exact List.map_id' l
/-- The addresses of a trace at which there is a block. -/
def traced (l tr : List Nat) : List (Nat × Int) := ones (tr.filter fun a => l.contains a)
theorem traced_step {l tr : List Nat} {j x : Nat} (h : tr[j]? = some x) : traced l (tr.take (j + 1)) = if l.contains x then traced l (tr.take j) ++ [(x, 1)] else traced l (tr.take j) := by
  rw [traced, take_snoc' h, List.filter_append, List.filter_cons]
  cases l.contains x
  · simp [traced]
  · rw [if_pos rfl, if_pos rfl, List.filter_nil, ones_snoc, traced]

set_option maxRecDepth 100000 in
set_option maxHeartbeats 4000000 in
theorem blocks_any (w : World) (A B : Option Addr) (n c k d : Nat) (l tr : List Nat) (hl : Sl basR w All (.slice A n c) l) (ht : Sl u32R w All (.slice B k d) tr) (hn : n ≤ 200) (hk : k ≤ 200) :
    Calls Try.prog 14 #[.slice A n c, .slice B k d] w (CovIs w (covB (traced l tr)) (covH (traced l tr))) := by
  have hmm := @run_makeMap Try.prog
  obtain ⟨L, hL⟩ : ∃ L, traced l tr = L := ⟨_, rfl⟩
  have hln := hl.len
  have hkn := ht.len
  have hLl : L.length ≤ 1000 := by
    rw [← hL, traced, ones, List.length_map]
    have := List.length_filter_le (fun a => l.contains a) tr
    omega
  have hL32 : ∀ a ∈ L.map Prod.fst, a < 4294967296 := by
    intro a ha
    rw [← hL, traced, ones_fst] at ha
    exact ht.num_lt a ((List.mem_filter.1 ha).1)
  rw [hL]
  have HL := hid hL
  have HL32 := hid hL32
  have HB := hid hl
  have HT := hid ht
  have HN := hid hln
  have HK := hid hkn
  have hcb := hl.cap
  have hcb1 := hcb.1
  have hcb2 := hcb.2
  have hct := ht.cap
  have hct1 := hct.1
  have hct2 := hct.2
  clear hL hL32 hl ht hln hkn hcb hct
  obtain ⟨W0, hW0⟩ : ∃ W0, (w.alloc (.cells #[.slice none 0 0, .slice none 0 0] 31)).alloc (.map #[] 0) = W0 := ⟨_, rfl⟩
  have hE0 : Ext w W0 := by rw [← hW0]; exact ((Ext.refl w).alloc _).alloc _
  have hs0 : W0.heap.size = w.heap.size + 1 + 1 := by rw [← hW0]; simp
  have r0 : W0.cell? ⟨w.heap.size, 0, none⟩ = some (.slice none 0 0) := by rw [← hW0]; simp [go_sem]
  have r1 : W0.cell? ⟨w.heap.size, 1, none⟩ = some (.slice none 0 0) := by rw [← hW0]; simp [go_sem]
  have f0 : W0.frozen? ⟨w.heap.size, 0, none⟩ = false := by rw [← hW0]; simp [go_sem]
  have f1 : W0.frozen? ⟨w.heap.size, 1, none⟩ = false := by rw [← hW0]; simp [go_sem]
  have hm : MapG (u32K Try.underlying36) W0 (w.heap.size + 1) 0 (knownF []) := by
    rw [← hW0]
    have h := MapG.made (u32K Try.underlying36) (w.alloc (.cells #[.slice none 0 0, .slice none 0 0] 31))
    simp only [World.size_alloc] at h
    exact h
  have HE0 := hid hE0
  have HS0 := hid hs0
  have HR := hid (And.intro r0 (And.intro r1 (And.intro f0 f1)))
  have HM := hid hm
  clear hE0 hs0 r0 r1 f0 f1 hm
  go_enter Try.func14, Try.ntmps14
  go_wp2_with fail
  clear hW0
  go_loopw [14] (fun i wr => ∃ (j q : Nat), j ≤ n ∧ i = .int .i64 j ∧ q ≤ j ∧ Hid (W0.grownBy wr (some (w.heap.size + 1))) ∧ Hid (MapG (u32K Try.underlying36) wr (w.heap.size + 1) q (knownF (l.take j)))) (fun i _ => n - (intOf i).toNat)
  case atStart => exact ⟨0, 0, by omega, rfl, by omega, hid (World.grownBy.refl _ _), hid (by simpa using HM.out)⟩
  case round =>
    obtain ⟨j, q, hj, rfl, hq, HG, HMR⟩ := hrel
    by_cases h1 : j < n
    · obtain ⟨x, hx⟩ : ∃ x, l[j]? = some x := ⟨_, List.getElem?_eq_getElem (by have := HN.out; omega)⟩
      have hbr := HM.out.sl HG.out (HB.out.ext HE0.out)
      obtain ⟨b, off, e, A1, n1, d1, B1, m1, e1, C1, k1, f1, rfl, hx32, x0, x1, x2, x3, x4⟩ := Sl.bas_at hbr hx
      have hsn := take_snoc' hx
      have HSN := hid hsn
      have HMA := hid (HMR.out.ext ((Ext.refl wr).alloc (.cells #[.int .u32 x, .int .u32 e, .slice A1 n1 d1, .slice B1 m1 e1, .slice C1 k1 f1] 62)))
      clear hbr hx hsn
      go_wp2_with (first
        | (at_mapUpdate; refine wpList_put _ rfl (.tmp 18) (.tmp 20) (.const (.bool true)) 63 rfl 4 Try.underlying63 (u32K Try.underlying36) (w.heap.size + 1) q (knownF (l.take j)) rfl HMA.out (by unfold maxLen; omega) x rfl hx32 (.bool true) rfl ?_; intro w1 hm1 hg1; have HM1 := hid (MapG.same hm1 (knownF_snoc (l.take j) x)); have HG1 := hid (HG.out.andThen (((Ext.refl wr).alloc (.cells #[.int .u32 x, .int .u32 e, .slice A1 n1 d1, .slice B1 m1 e1, .slice C1 k1 f1] 62)).grownBy (some (w.heap.size + 1)) |>.andThen hg1 (fun j hj => .inr hj)) (fun j hj => .inr hj)); clear hm1 hg1)
        | fail)
      first
        | go_roundw
        | refine ⟨?rel, ?measure⟩
      case rel => exact ⟨j + 1, q + 1, by omega, by go_num, by omega, HG1, hid (by rw [HSN.out]; exact HM1.out)⟩
      case measure => simp [intOf]; omega
    · obtain rfl : j = n := by omega
      have he : l.take j = l := List.take_of_length_le (by have := HN.out; omega)
      have hmr := HMR.out
      rw [he] at hmr
      have hlt : w.heap.size + 1 < wr.heap.size := by have := HG.out.size; have := HS0.out; omega
      obtain ⟨W1, hW1⟩ : ∃ W1, wr.alloc (.map #[] 0) = W1 := ⟨_, rfl⟩
      have hE1 : Ext wr W1 := by rw [← hW1]; exact (Ext.refl wr).alloc _
      have hs1 : W1.heap.size = wr.heap.size + 1 := by rw [← hW1]; simp
      have HMK := hid (hmr.ext hE1)
      have HMC : Hid (MapG (u32K Try.underlying36) W1 wr.heap.size 0 (cntF [])) := hid (by rw [← hW1]; exact MapG.made (u32K Try.underlying36) wr)
      have HG1 := hid (HG.out.andThen (hE1.grownBy (some (w.heap.size + 1))) (fun j hj => .inr hj))
      have HS1 := hid hs1
      obtain ⟨mc, hmc⟩ : ∃ mc, wr.heap.size = mc := ⟨_, rfl⟩
      rw [hmc] at HMC hlt HS1
      clear he hmr hE1 hs1 HMR HG
      go_wp2
      clear hW1
      go_loopw [25] (fun i wr2 => ∃ (j q2 : Nat), j ≤ k ∧ i = .int .i64 j ∧ q2 ≤ j ∧ Hid (W1.grownBy wr2 (some mc)) ∧ Hid (MapG (u32K Try.underlying36) wr2 mc q2 (cntF (traced l (tr.take j))))) (fun i _ => k - (intOf i).toNat)
      case atStart => exact ⟨0, 0, by omega, rfl, by omega, hid (World.grownBy.refl _ _), hid (by simpa [traced, ones] using HMC.out)⟩
      case round =>
        obtain ⟨j2, q2, hj2, rfl, hq2, HG2, HMR2⟩ := hrel
        by_cases h2 : j2 < k
        · obtain ⟨x, hx⟩ : ∃ x, tr[j2]? = some x := ⟨_, List.getElem?_eq_getElem (by have := HK.out; omega)⟩
          have htr := HMC.out.sl HG2.out (HM.out.sl HG1.out (HT.out.ext HE0.out))
          obtain ⟨b, off, rfl, cx, hx32⟩ := htr.num_at hx
          have hst := traced_step (l := l) hx
          have hlk := knownF_look l x
          obtain ⟨y, hy⟩ : ∃ y, l.contains x = y := ⟨_, rfl⟩
          have HLK := hid (hlk y hy)
          rw [hy] at hst
          have HST := hid hst
          have HMK2 := hid (HMK.out.kept HG2.out (by simp; omega))
          clear htr hx hst hlk hy
          cases y with
          | true =>
            go_wp2_with (first
              | (at_lookup; refine wpList_look _ rfl (.tmp 29) (.tmp 30) 63 rfl 4 Try.underlying63 (.bool false) (zero_bool _) (u32K Try.underlying36) (w.heap.size + 1) q (knownF l) rfl HMK2.out x rfl hx32 (.bool true) HLK.out ?_)
              | fail)
            refine (add_any wr mc q2 _ HMR2.out (by omega) x hx32 1).mono ?_
            rintro e w3 ⟨rfl, hg3, hm3⟩
            have HG3 := hid (HG2.out.andThen hg3 (fun j hj => .inr hj))
            have HM3 := hid hm3
            clear hg3 hm3 cx
            go_wp2
            first
              | go_roundw
              | refine ⟨?rel, ?measure⟩
            case rel => exact ⟨j2 + 1, q2 + 1, by omega, by go_num, by omega, HG3, hid (by rw [HST.out]; exact HM3.out)⟩
            case measure => simp [intOf]; omega
          | false =>
            go_wp2_with (first
              | (at_lookup; refine wpList_look _ rfl (.tmp 29) (.tmp 30) 63 rfl 4 Try.underlying63 (.bool false) (zero_bool _) (u32K Try.underlying36) (w.heap.size + 1) q (knownF l) rfl HMK2.out x rfl hx32 (.bool false) HLK.out ?_)
              | fail)
            first
              | go_roundw
              | refine ⟨?rel, ?measure⟩
            case rel => exact ⟨j2 + 1, q2, by omega, by go_num, by omega, HG2, hid (by rw [HST.out]; exact HMR2.out)⟩
            case measure => simp [intOf]; omega
        · obtain rfl : j2 = k := by omega
          have he : traced l (tr.take j2) = L := by
            rw [List.take_of_length_le (by have := HK.out; omega)]
            exact HL.out
          have hmr := HMR2.out
          rw [he] at hmr
          have HMX := hid hmr
          clear hmr he
          go_wp2_with fail
          refine (cover_any wr mc q2 L HMX.out hLl HL32.out).mono ?_
          rintro e w3 ⟨hx3, A1, c1, A2, c2, rfl, hs1, hs2⟩
          have hlt0 : w.heap.size < W0.heap.size := by have := HS0.out; omega
          have hlt1 : w.heap.size < W1.heap.size := by have := HS1.out; omega
          have hlt2 : w.heap.size < wr.heap.size := by have := HG2.out.size; omega
          have hlt3 : w.heap.size < w3.heap.size := by have := hx3.size; omega
          have n1 : some w.heap.size ≠ some (w.heap.size + 1) := by simp
          have n2 : some w.heap.size ≠ some mc := by simp; omega
          have r0 := (grown_cell HG2.out (q := ⟨w.heap.size, 0, none⟩) hlt1 n2).trans ((grown_cell HG1.out (q := ⟨w.heap.size, 0, none⟩) hlt0 n1).trans HR.out.1)
          have r1 := (grown_cell HG2.out (q := ⟨w.heap.size, 1, none⟩) hlt1 n2).trans ((grown_cell HG1.out (q := ⟨w.heap.size, 1, none⟩) hlt0 n1).trans HR.out.2.1)
          have f0 := (hx3.frozen (p := ⟨w.heap.size, 0, none⟩) hlt2).trans ((grown_frozen HG2.out (q := ⟨w.heap.size, 0, none⟩) hlt1 n2).trans ((grown_frozen HG1.out (q := ⟨w.heap.size, 0, none⟩) hlt0 n1).trans HR.out.2.2.1))
          have f1 := (hx3.frozen (p := ⟨w.heap.size, 1, none⟩) hlt2).trans ((grown_frozen HG2.out (q := ⟨w.heap.size, 1, none⟩) hlt1 n2).trans ((grown_frozen HG1.out (q := ⟨w.heap.size, 1, none⟩) hlt0 n1).trans HR.out.2.2.2))
          have r0 := hx3.cell r0
          have r1 := hx3.cell r1
          have hX : Ext w w3 := ((HE0.out.grown HG1.out (fun k hk => by cases hk; omega)).grown HG2.out (fun k hk => by cases hk; omega)).trans hx3
          have S1 := hid (hs1.keep (w' := (w3.setCell ⟨w.heap.size, 0, none⟩ (.slice A1 (covB L).length c1)).setCell ⟨w.heap.size, 1, none⟩ (.slice A2 (covB L).length c2)) (fun b hb hc => by
            rw [Below.heap_setCell _ _ _ b (by simp; omega), Below.heap_setCell _ _ _ b (by simp; omega)]))
          have S2 := hid (hs2.keep (w' := (w3.setCell ⟨w.heap.size, 0, none⟩ (.slice A1 (covB L).length c1)).setCell ⟨w.heap.size, 1, none⟩ (.slice A2 (covB L).length c2)) (fun b hb hc => by
            rw [Below.heap_setCell _ _ _ b (by simp; omega), Below.heap_setCell _ _ _ b (by simp; omega)]))
          have HX := hid hX
          clear hx3 hs1 hs2 hX
          go_wp2
          refine bodyPost_ret (v := .agg #[.slice A1 (covB L).length c1, .slice A2 (covB L).length c2]) (by simp [results, Try.results14, go_sem, World.cell?_setCell_same, World.cell?_setCell_other, r0, r1]) rfl ?_
          exact ⟨(HX.out.setCell (by simp) _).setCell (by simp) _, A1, c1, A2, c2, rfl, S1.out.all, S2.out.all⟩

/-- The blocks that are not in a cover. -/
def missedOf (l bl : List Nat) : List Nat := asc (l.filter fun a => !bl.contains a)

set_option maxRecDepth 100000 in
set_option maxHeartbeats 2000000 in
theorem missed_any (w : World) (A B C : Option Addr) (n c k d k2 d2 : Nat) (l bl : List Nat) (hl : Sl basR w All (.slice A n c) l) (hb : Sl u32R w All (.slice B k d) bl) (hn : n ≤ 1000) (hk : k ≤ 1000) :
    Calls Try.prog 27 #[.slice A n c, .agg #[.slice B k d, .slice C k2 d2]] w (ListOf w (missedOf l bl)) := by
  obtain ⟨L, hL⟩ : ∃ L, missedOf l bl = L := ⟨_, rfl⟩
  rw [hL]
  obtain ⟨i0, hi, hz0, hz1, hz2⟩ := info_parts info_w32
  have HI := hid hi
  have HZ0 := hid hz0
  have HZ1 := hid hz1
  have HZ2 := hid hz2
  have HL := hid hL
  have HS := hid hl
  have HB := hid hb
  have HN := hid hl.len
  have HK := hid hb.len
  have hcb := hl.cap
  have hcb1 := hcb.1
  have hcb2 := hcb.2
  clear hi hz0 hz1 hz2 hL hl hb hcb
  obtain ⟨W0, hW0⟩ : ∃ W0, w.alloc (.cells #[.slice B k d, .slice C k2 d2] 31) = W0 := ⟨_, rfl⟩
  have hE0 : Ext w W0 := by rw [← hW0]; exact (Ext.refl w).alloc _
  have c0 : W0.cell? ⟨w.heap.size, 0, none⟩ = some (.slice B k d) := by rw [← hW0]; simp [go_sem]
  have hs0 : W0.heap.size = w.heap.size + 1 := by rw [← hW0]; simp
  have HE0 := hid hE0
  have HC0 := hid c0
  have HS0 := hid hs0
  clear hE0 c0 hs0
  go_enter Try.func27, Try.ntmps27
  go_wp2
  clear hW0
  go_loopw [5, 10] (fun v i wr => ∃ (j : Nat) (A' : Option Addr) (c' : Nat) (M : List Nat), j ≤ n ∧ i = .int .i64 j ∧ v = .slice A' M.length c' ∧ M.length ≤ 1000 ∧ Hid (OwnS u32R wr W0.heap.size 36 All (.slice A' M.length c') M) ∧ Hid (Ext W0 wr) ∧ Hid (M = (l.take j).filter fun a => !bl.contains a)) (fun _ i _ => n - (intOf i).toNat)
  case atStart => exact ⟨0, none, 0, [], by omega, rfl, rfl, by simp, hid OwnS.nil, hid (Ext.refl _), hid rfl⟩
  case round =>
    obtain ⟨j, A', c', M, hj, rfl, rfl, hMl, HO, HX, HM⟩ := hrel
    by_cases h1 : j < n
    · obtain ⟨x, hx⟩ : ∃ x, l[j]? = some x := ⟨_, List.getElem?_eq_getElem (by have := HN.out; omega)⟩
      obtain ⟨b, off, e, A1, n1, d1, B1, m1, e1, C1, k1, f1, rfl, hx32, x0, x1, x2, x3, x4⟩ := Sl.bas_at ((HS.out.ext HE0.out).ext HX.out) hx
      have c0 := HX.out.cell HC0.out
      have hsn : (l.take (j + 1)).filter (fun a => !bl.contains a) = (l.take j).filter (fun a => !bl.contains a) ++ (if bl.contains x then [] else [x]) := by
        rw [take_snoc' hx, List.filter_append, List.filter_cons]
        cases bl.contains x <;> rfl
      have HSN := hid hsn
      have hmn : M.length < n := by
        have h2 := List.length_filter_le (fun a => !bl.contains a) (l.take j)
        rw [List.length_take] at h2
        rw [HM.out]
        omega
      have HX3 := hid ((Ext.refl wr).alloc (.cells #[.int .u32 x, .int .u32 e, .slice A1 n1 d1, .slice B1 m1 e1, .slice C1 k1 f1] 62))
      have HO3 := hid (HO.out.ext HX3.out)
      have HX4 := hid (HX.out.trans HX3.out)
      have hlt : w.heap.size < wr.heap.size := by have := HX.out.size; have := HS0.out; omega
      clear hx hsn
      go_wp2_with fail
      refine (contains32_any _ All B k d bl ((HB.out.ext HE0.out).ext HX4.out) (by omega) x).mono ?_
      rintro e w3 ⟨rfl, rfl⟩
      obtain ⟨r, hr⟩ : ∃ r, bl.contains x = r := ⟨_, rfl⟩
      rw [hr] at HSN ⊢
      clear hr
      cases r with
      | true =>
        go_wp2
        first
          | go_roundw
          | refine ⟨?rel, ?measure⟩
        case rel => exact ⟨j + 1, A', c', M, by omega, by go_num, rfl, hMl, HO3, HX4, hid (by have := HSN.out; rw [this, if_pos trivial, List.append_nil]; exact HM.out)⟩
        case measure => simp [intOf]; omega
      | false =>
        go_wp2_with (first
          | (at_builtin; refine wpList_app1s rfl (.tmp 20) (.tmp 23) 23 rfl W0.heap.size 36 i0 _ 1 4 Try.underlying23 HI.out HZ0.out HZ1.out HZ2.out rfl u32R rfl (.slice A' M.length c') M rfl HO3.out (wr.heap.size + 1) (by simp) x rfl ⟨rfl, hx32⟩ (by omega) (by omega) (by exact HX4.out.size) ?_; intro A5 c5 w5 hown5 hg5; have HO5 := hid hown5; have HX5 := hid ((HX4.out.alloc _).grown hg5 (fun k hk => (HO3.out.block _ hk).1)); clear hown5 hg5)
          | fail)
        first
          | go_roundw
          | refine ⟨?rel, ?measure⟩
        case rel => exact ⟨j + 1, A5, c5, M ++ [x], by omega, by go_num, by simp, by simp; omega, hid (by simpa using HO5.out), HX5, hid (by have := HSN.out; rw [this, HM.out]; simp)⟩
        case measure => simp [intOf]; omega
    · obtain rfl : j = n := by omega
      have he : asc M = L := by
        rw [HM.out, List.take_of_length_le (by have := HN.out; omega)]
        exact HL.out
      have HE := hid he
      have hMl2 : M.length < 4611686018427387904 := by omega
      clear he
      go_wp2_with fail
      refine (sort_own HO.out hMl2).mono ?_
      rintro e w2 ⟨rfl, ho2, hg2⟩
      have HO2 := hid ho2
      have HX2 := hid (HX.out.grown hg2 (fun k hk => (HO.out.block _ hk).1))
      have hsl := sorted32_length M
      clear ho2 hg2 hsl
      go_wp2_with fail
      refine (compact_any W0 w2 HX2.out A' M.length c' (sorted32 M) HO2.out (by omega)).mono ?_
      rintro e w3 ⟨hx3, A3, c3, rfl, ho3⟩
      have e2 : ddn (sorted32 M) M.length = L := by
        have h1 : (sorted32 M).Pairwise (· ≤ ·) := by
          have : (sorted32 M).Pairwise (fun a b => decide (a ≤ b) = true) := List.pairwise_mergeSort (fun a b c h1 h2 => by simp at h1 h2 ⊢; omega) (fun a b => by simp; omega) M
          exact this.imp fun h => by simpa using h
        rw [ddn_sorted h1 M.length (by rw [sorted32_length]; exact Nat.le_refl _), List.take_of_length_le (by rw [sorted32_length]; exact Nat.le_refl _), ← HE.out]
        exact asc_eq fun a => sorted32_mem
      have HX3 := hid (HE0.out.trans hx3)
      have HS3 := hid ho3.sl
      rw [e2] at HS3 ⊢
      clear hx3 ho3 e2
      go_wp2
      go_ret
      exact ⟨HX3.out, A3, c3, rfl, HS3.out⟩
end Go.Proofs.Ytcddmggefmfkkaa
