/- CoverageBlocks: few, basics, toRef, Same, Has. -/
import Derived.Test.YtcddmggefmfkkaaExaA
import Derived.Test.YtcddmggefmfkkaaApp
namespace Go.Proofs.Ytcddmggefmfkkaa
open Go.RowKit Go.Deco
set_option linter.unusedSimpArgs false
set_option linter.unusedVariables false

set_option maxRecDepth 100000 in
set_option maxHeartbeats 400000 in
theorem has_any (w : World) (S : Nat → Prop) (A : Option Addr) (n c : Nat) (l : List Nat) (hl : Sl u32R w S (.slice A n c) l) (x : Nat) :
    Calls Try.prog 28 #[.slice A n c, .int .u32 x] w fun e w' => e = .returned (.bool (l.contains x)) ∧ w = w' := by
  have hln := hl.len
  obtain ⟨hnc, hcm⟩ := hl.cap
  obtain ⟨r, hr⟩ : ∃ r, l.contains x = r := ⟨_, rfl⟩
  rw [hr]
  have HR := hid hr; clear hr
  have HS := hid hl; clear hl
  have HL := hid hln; clear hln
  go_enter Try.func28, Try.ntmps28
  go_wp2
  go_loop [5] (fun i => ∃ k : Nat, k ≤ n ∧ i = .int .i64 k ∧ Hid (x ∉ l.take k)) (fun i => n - (intOf i).toNat)
  case atStart => exact ⟨0, by omega, rfl, hid (by simp)⟩
  case round =>
    obtain ⟨k, hk, rfl, ha⟩ := hrel
    by_cases h1 : k < n
    · obtain ⟨s, hs⟩ : ∃ s, l[k]? = some s := ⟨_, List.getElem?_eq_getElem (by have := HL.out; omega)⟩
      obtain ⟨b, off, rfl, c0, hs32⟩ := HS.out.num_at hs
      have HK := hid hs; clear hs
      by_cases h2 : s = x
      · subst h2
        have h3 : ((s : Int) == (s : Int)) = true := by simp
        go_wp2
        go_ret
        exact ⟨ret_bool (by rw [← HR.out]; have := List.mem_of_getElem? HK.out; simp [this]), rfl⟩
      · have h3 : ((s : Int) == (x : Int)) = false := by simp; omega
        go_wp2
        go_round
        case rel =>
          refine ⟨k + 1, by omega, by go_num, hid ?_⟩
          rw [take_snoc' HK.out, List.mem_append]
          intro h
          rcases h with h | h
          · exact ha.out h
          · simp at h
            exact h2 h.symm
        case measure => simp [intOf]; omega
    · obtain rfl : k = n := by omega
      go_wp2
      go_ret
      have e : l.take k = l := List.take_of_length_le (by have := HL.out; omega)
      have h := ha.out
      rw [e] at h
      exact ⟨ret_bool (by rw [← HR.out]; simp [h]), rfl⟩

def fewB (n k : Nat) : Bool := decide (n ≤ 20) && decide (k ≤ 60)
set_option maxRecDepth 100000 in
set_option maxHeartbeats 400000 in
theorem few_any (w : World) (A B : Option Addr) (n c k d : Nat) :
    Calls Try.prog 10 #[.slice A n c, .slice B k d] w fun e w' => e = .returned (.bool (fewB n k)) ∧ w = w' := by
  obtain ⟨r, hr⟩ : ∃ r, fewB n k = r := ⟨_, rfl⟩
  rw [hr]
  have HR := hid hr
  clear hr
  by_cases h1 : n ≤ 20
  · have h1' : (n : Int) ≤ 20 := by omega
    by_cases h2 : k ≤ 60
    · have h2' : (k : Int) ≤ 60 := by omega
      clear h1 h2
      go_enter Try.func10, Try.ntmps10
      go_wp2
      go_ret
      exact ⟨ret_bool (by rw [← HR.out, fewB, decide_eq_true (by omega : n ≤ 20), decide_eq_true (by omega : k ≤ 60)]; rfl), rfl⟩
    · have h2' : ¬ ((k : Int) ≤ 60) := by omega
      clear h1
      go_enter Try.func10, Try.ntmps10
      go_wp2
      go_ret
      exact ⟨ret_bool (by rw [← HR.out, fewB, decide_eq_false (by omega : ¬ k ≤ 60), Bool.and_false]), rfl⟩
  · have h1' : ¬ ((n : Int) ≤ 20) := by omega
    go_enter Try.func10, Try.ntmps10
    go_wp2
    go_ret
    exact ⟨ret_bool (by rw [← HR.out, fewB, decide_eq_false (by omega : ¬ n ≤ 20), Bool.false_and]), rfl⟩

set_option maxRecDepth 100000 in
set_option maxHeartbeats 400000 in
theorem toRef_any (w : World) (A B : Option Addr) (n c k d : Nat) :
    Calls Try.prog 13 #[.agg #[.slice A n c, .slice B k d]] w fun e w' => e = .returned (.agg #[.slice A n c, .slice B k d]) ∧ Ext w w' := by
  go_enter Try.func13, Try.ntmps13
  go_wp2
  refine bodyPost_ret (v := .agg #[.slice A n c, .slice B k d]) (by simp [results, Try.results13, go_sem]) rfl ?_
  refine ⟨rfl, ?_⟩
  first
    | exact ((Ext.refl w).alloc _).alloc _
    | exact ((((Ext.refl w).alloc _).alloc _).setCell (by simp) _).setCell (by simp) _

theorem info_bas : (Try.prog.info? 62).map (fun i => (i.zero, i.size, i.bytes)) = some (some (.agg #[.int .u32 0, .int .u32 0, .slice none 0 0, .slice none 0 0, .slice none 0 0]), 5, 80) := by kernel_rfl
/-- Blocks are handed back. -/
def BasOf (w : World) (l : List Nat) (e : Ending) (w' : World) : Prop := Ext w w' ∧ ∃ A c, e = .returned (.slice A l.length c) ∧ Sl basR w' All (.slice A l.length c) l
set_option maxRecDepth 100000 in
set_option maxHeartbeats 2000000 in
theorem basics_any (w : World) (A : Option Addr) (n c : Nat) (l : List Nat) (hl : Sl basR w All (.slice A n c) l) (hn : n ≤ 1000) :
    Calls Try.prog 15 #[.slice A n c] w (BasOf w l) := by
  have hln := hl.len
  obtain ⟨hnc, hcm⟩ := hl.cap
  obtain ⟨i0, hi, hz0, hz1, hz2⟩ := info_parts info_bas
  have HS := hid hl
  have HLN := hid hln
  have HI := hid hi
  have HZ0 := hid hz0
  have HZ1 := hid hz1
  have HZ2 := hid hz2
  clear hl hln hi hz0 hz1 hz2
  go_enter Try.func15, Try.ntmps15
  go_wp2
  go_loopw [3, 4] (fun v i wr => ∃ (k : Nat) (A' : Option Addr) (c' : Nat), k ≤ n ∧ i = .int .i64 k ∧ v = .slice A' k c' ∧ Hid (OwnS basR wr w.heap.size 62 All (.slice A' k c') (l.take k)) ∧ Hid (Ext w wr)) (fun _ i _ => n - (intOf i).toNat)
  case atStart => exact ⟨0, none, 0, by omega, rfl, rfl, hid (by simpa using OwnS.nil), hid (Ext.refl _)⟩
  case round =>
    obtain ⟨k, A', c', hk, rfl, rfl, hown, hx⟩ := hrel
    by_cases h1 : k < n
    · obtain ⟨x, hf⟩ : ∃ x, l[k]? = some x := ⟨_, List.getElem?_eq_getElem (by have := HLN.out; omega)⟩
      obtain ⟨b, off, e5, A1, n1, d1, B, m, d, C, q, f, rfl, hx32, d0, d1', -, -, -⟩ := Sl.bas_at HS.out hf
      have hbl : b < w.heap.size := World.block_lt_of_cell? _ _ d0
      have hbr : b < wr.heap.size := Nat.lt_of_lt_of_le hbl hx.out.size
      have c0 := hx.out.cell d0
      have c1 := hx.out.cell d1'
      clear d0 d1'
      have HFK := hid hf; clear hf
      have HKL := hid (show (l.take k).length = k by rw [List.length_take]; have := HLN.out; omega)
      have HO0 := hid hown.out.dr
      have HX0 := hid hx.out.drew
      go_wp2_with fail
      refine wp_region_held_drew (S := (fun w' => w'.cell? ⟨b, off + k * 5, none⟩ = some (.int .u32 x) ∧ w'.cell? ⟨b, off + k * 5 + 1, none⟩ = some (.int .u32 e5))) (by kernel_rfl) ⟨c0, c1⟩ (fun hSR0 => ?_)
      refine wpAnyH_takeL (i := 0) (v := ?Rv0) rfl (by kernel_rfl) (by kernel_rfl) (by kernel_rfl) (fun _ _ _ h => h) (Or.inl ⟨by rfl, ?Ry0⟩) (by assumption) ?Rr0
      case Ry0 => first | (intro w hSw; (try dsimp only at hSw); go_simp; done) | (intro w hSw; (try dsimp only at hSw); go_simp; with_reducible rfl)
      case' Rr0 => try simp only [Act.put, List.setIfInBounds_toArray, List.set_cons_zero, List.set_cons_succ]
      refine wpAnyH_takeL (i := 1) (v := ?Rv1) rfl (by kernel_rfl) (by kernel_rfl) (by kernel_rfl) (fun _ _ _ h => h) (Or.inl ⟨by rfl, ?Ry1⟩) (by assumption) ?Rr1
      case Ry1 => first | (intro w hSw; (try dsimp only at hSw); go_simp; done) | (intro w hSw; (try dsimp only at hSw); go_simp; with_reducible rfl)
      case' Rr1 => try simp only [Act.put, List.setIfInBounds_toArray, List.set_cons_zero, List.set_cons_succ]
      refine wpAnyH_takeL (i := 2) (v := ?Rv2) rfl (by kernel_rfl) (by kernel_rfl) (by kernel_rfl) (fun _ _ _ h => h) (Or.inl ⟨by rfl, ?Ry2⟩) (by assumption) ?Rr2
      case Ry2 => first | (intro w hSw; (try dsimp only at hSw); go_simp; done) | (intro w hSw; (try dsimp only at hSw); go_simp; with_reducible rfl)
      case' Rr2 => try simp only [Act.put, List.setIfInBounds_toArray, List.set_cons_zero, List.set_cons_succ]
      refine wpAnyH_takeL (i := 3) (v := ?Rv3) rfl (by kernel_rfl) (by kernel_rfl) (by kernel_rfl) (fun _ _ _ h => h) (Or.inl ⟨by rfl, ?Ry3⟩) (by assumption) ?Rr3
      case Ry3 => first | (intro w hSw; (try dsimp only at hSw); go_simp; done) | (intro w hSw; (try dsimp only at hSw); go_simp; with_reducible rfl)
      case' Rr3 => try simp only [Act.put, List.setIfInBounds_toArray, List.set_cons_zero, List.set_cons_succ]
      refine wpAnyH_takeL (i := 4) (v := ?Rv4) rfl (by kernel_rfl) (by kernel_rfl) (by kernel_rfl) (fun _ _ _ h => h) (Or.inl ⟨by rfl, ?Ry4⟩) (by assumption) ?Rr4
      case Ry4 => first | (intro w hSw; (try dsimp only at hSw); go_simp; done) | (intro w hSw; (try dsimp only at hSw); go_simp; with_reducible rfl)
      case' Rr4 => try simp only [Act.put, List.setIfInBounds_toArray, List.set_cons_zero, List.set_cons_succ]
      refine wpAnyH_takeL (i := 5) (v := ?Rv5) rfl (by kernel_rfl) (by kernel_rfl) (by kernel_rfl) (fun _ _ _ h => h) (Or.inl ⟨by rfl, ?Ry5⟩) (by assumption) ?Rr5
      case Ry5 => first | (intro w hSw; (try dsimp only at hSw); go_simp; done) | (intro w hSw; (try dsimp only at hSw); go_simp; with_reducible rfl)
      case' Rr5 => try simp only [Act.put, List.setIfInBounds_toArray, List.set_cons_zero, List.set_cons_succ]
      refine wpAnyH_takeL (i := 6) (v := ?Rv6) rfl (by kernel_rfl) (by kernel_rfl) (by kernel_rfl) (fun _ _ _ h => h) (Or.inl ⟨by rfl, ?Ry6⟩) (by assumption) ?Rr6
      case Ry6 => first | (intro w hSw; (try dsimp only at hSw); go_simp; done) | (intro w hSw; (try dsimp only at hSw); go_simp; with_reducible rfl)
      case' Rr6 => try simp only [Act.put, List.setIfInBounds_toArray, List.set_cons_zero, List.set_cons_succ]
      refine wpAnyH_takeL (i := 7) (v := ?Rv7) rfl (by kernel_rfl) (by kernel_rfl) (by kernel_rfl) (fun _ _ _ h => h) (Or.inl ⟨by rfl, ?Ry7⟩) (by assumption) ?Rr7
      case Ry7 => first | (intro w hSw; (try dsimp only at hSw); go_simp; done) | (intro w hSw; (try dsimp only at hSw); go_simp; with_reducible rfl)
      case' Rr7 => try simp only [Act.put, List.setIfInBounds_toArray, List.set_cons_zero, List.set_cons_succ]
      refine wpAnyH_takeL (i := 8) (v := ?Rv8) rfl (by kernel_rfl) (by kernel_rfl) (by kernel_rfl) (fun _ _ _ h => h) (Or.inl ⟨by rfl, ?Ry8⟩) (by assumption) ?Rr8
      case Ry8 => first | (intro w hSw; (try dsimp only at hSw); go_simp; done) | (intro w hSw; (try dsimp only at hSw); go_simp; with_reducible rfl)
      case' Rr8 => try simp only [Act.put, List.setIfInBounds_toArray, List.set_cons_zero, List.set_cons_succ]
      refine wpAnyH_takeL (i := 9) (v := ?Rv9) rfl (by kernel_rfl) (by kernel_rfl) (by kernel_rfl) (fun _ _ _ h => h) (Or.inl ⟨by rfl, ?Ry9⟩) (by assumption) ?Rr9
      case Ry9 => first | (intro w hSw; (try dsimp only at hSw); go_simp; done) | (intro w hSw; (try dsimp only at hSw); go_simp; with_reducible rfl)
      case' Rr9 => try simp only [Act.put, List.setIfInBounds_toArray, List.set_cons_zero, List.set_cons_succ]
      refine wpAnyH_takeL (i := 10) (v := ?Rv10) rfl (by kernel_rfl) (by kernel_rfl) (by kernel_rfl) (fun _ _ _ h => h) (Or.inl ⟨by rfl, ?Ry10⟩) (by assumption) ?Rr10
      case Ry10 => first | (intro w hSw; (try dsimp only at hSw); go_simp; done) | (intro w hSw; (try dsimp only at hSw); go_simp; with_reducible rfl)
      case' Rr10 => try simp only [Act.put, List.setIfInBounds_toArray, List.set_cons_zero, List.set_cons_succ]
      refine wpAnyH_takeL (i := 11) (v := ?Rv11) rfl (by kernel_rfl) (by kernel_rfl) (by kernel_rfl) (fun _ _ _ h => h) (Or.inl ⟨by rfl, ?Ry11⟩) (by assumption) ?Rr11
      case Ry11 => first | (intro w hSw; (try dsimp only at hSw); go_simp; done) | (intro w hSw; (try dsimp only at hSw); go_simp; with_reducible rfl)
      case' Rr11 => try simp only [Act.put, List.setIfInBounds_toArray, List.set_cons_zero, List.set_cons_succ]
      refine wpAnyH_ready (rs := [12]) (by kernel_rfl) (by simp) ?_
      refine AllReadyH.consL rfl (fun K hK => ?_) AllReadyH.nil
      go_simp
      refine hK.out _ _ ⟨((Ext.refl wr).drew.alloc _).cell c0, ((Ext.refl wr).drew.alloc _).cell c1⟩ (fun hSR1 => ?_)
      clear hK K
      try simp only [Act.put, List.setIfInBounds_toArray, List.set_cons_zero, List.set_cons_succ]
      refine wpAnyH_ready (rs := [13]) (by kernel_rfl) (by simp) ?_
      refine AllReadyH.consL rfl (fun K hK => ?_) AllReadyH.nil
      refine step_app1 rfl (.tmp 11) (.tmp 23) 33 rfl w.heap.size 62 i0 _ 5 80 Try.underlying33 HI.out HZ0.out HZ1.out HZ2.out rfl basR rfl (.slice A' k c') (l.take k) rfl HO0.out x rfl ⟨e5, none, 0, 0, none, 0, 0, none, 0, 0, rfl, hx32⟩ (by have := HKL.out; omega) (by have := HKL.out; omega) (by exact HX0.out.size) ?_
      intro A2 c2' w3 hown3 hg3
      rw [HKL.out] at hown3
      have HO3 := hid hown3
      have HX3 := hid ((HX0.out.alloc _).grown hg3 (fun k hk => (HO0.out.block _ hk).1))
      have HS3 := hid (hg3.block b (by simp; omega) (fun e => by have := HO0.out.block b e.symm; omega))
      clear hown3 hg3
      rw [HKL.out]
      refine hK.out _ _ ⟨(World.cell?_of_block HS3.out).trans (((Ext.refl wr).drew.alloc _).cell c0), (World.cell?_of_block HS3.out).trans (((Ext.refl wr).drew.alloc _).cell c1)⟩ (fun hSR2 => ?_)
      clear hK K
      try simp only [Act.put, List.setIfInBounds_toArray, List.set_cons_zero, List.set_cons_succ]
      refine wpAnyH_takeL (i := 14) (v := ?Rv14) rfl (by kernel_rfl) (by kernel_rfl) (by kernel_rfl) (fun _ _ _ h => h) (Or.inl ⟨by rfl, ?Ry14⟩) (by assumption) ?Rr14
      case Ry14 => first | (intro w hSw; (try dsimp only at hSw); go_simp; done) | (intro w hSw; (try dsimp only at hSw); go_simp; with_reducible rfl)
      case' Rr14 => try simp only [Act.put, List.setIfInBounds_toArray, List.set_cons_zero, List.set_cons_succ]
      refine wpAnyH_done (by kernel_rfl) ?_ _
      go_wp2
      first
        | go_roundw
        | refine ⟨?rel, ?measure⟩
      case rel => exact ⟨k + 1, A2, c2', by omega, by go_num, rfl, hid (by rw [take_snoc' HFK.out]; exact HO3.out), HX3⟩
      case measure => simp [intOf]; omega
    · obtain rfl : n = k := by omega
      go_wp2
      go_ret
      have e1 : l.take n = l := List.take_of_length_le (by have := HLN.out; omega)
      have ho := hown.out
      rw [e1, HLN.out] at ho
      exact ⟨hx.out, A', c', by rw [← HLN.out]; rfl, ho.sl⟩

set_option maxRecDepth 100000 in
set_option maxHeartbeats 2000000 in
theorem same_any (w : World) (A A' B B' : Option Addr) (n c c' k d d' : Nat) (bl : List Nat) (hs : List Int) (h1 : Sl u32R w All (.slice A n c) bl) (h2 : Sl u32R w All (.slice A' n c') bl) (h3 : Sl i64R w All (.slice B k d) hs) (h4 : Sl i64R w All (.slice B' k d') hs) :
    Calls Try.prog 12 #[.agg #[.slice A n c, .slice B k d], .agg #[.slice A' n c', .slice B' k d']] w (OneBool w true) := by
  have hkl := h3.len
  obtain ⟨hkd, hdm⟩ := h3.cap
  obtain ⟨hkd', hdm'⟩ := h4.cap
  obtain ⟨W0, hW0⟩ : ∃ W0, (w.alloc (.cells #[.slice A n c, .slice B k d] 29)).alloc (.cells #[.slice A' n c', .slice B' k d'] 29) = W0 := ⟨_, rfl⟩
  have hE0 : Ext w W0 := by rw [← hW0]; exact ((Ext.refl w).alloc _).alloc _
  have x0 : W0.cell? ⟨w.heap.size, 0, none⟩ = some (.slice A n c) := by rw [← hW0]; simp [go_sem]
  have x1 : W0.cell? ⟨w.heap.size, 1, none⟩ = some (.slice B k d) := by rw [← hW0]; simp [go_sem]
  have y0 : W0.cell? ⟨w.heap.size + 1, 0, none⟩ = some (.slice A' n c') := by rw [← hW0]; simp [go_sem]
  have y1 : W0.cell? ⟨w.heap.size + 1, 1, none⟩ = some (.slice B' k d') := by rw [← hW0]; simp [go_sem]
  have HC := hid (And.intro x1 y1)
  have HE0 := hid hE0
  have H1 := hid (h1.ext hE0)
  have H2 := hid (h2.ext hE0)
  have H3 := hid (h3.ext hE0)
  have H4 := hid (h4.ext hE0)
  have HKL := hid hkl
  have hkk : ((k : Int) != (k : Int)) = false := by simp
  clear hE0 h1 h2 h3 h4 hkl
  go_enter Try.func12, Try.ntmps12
  go_wp2_with fail
  refine (words_any W0 W0 (Ext.refl _) A A' n n c c' bl bl H1.out H2.out).mono ?_
  rintro e w1 ⟨rfl, hx1⟩
  rw [show decide (bl = bl) = true by simp]
  clear x0 y0 x1 y1 hW0
  have HX1 := hid hx1
  have x1 := hx1.cell HC.out.1
  have y1 := hx1.cell HC.out.2
  clear hx1
  go_wp2_with fail
  clear hkk
  go_loopw [5] (fun i wr => ∃ j : Nat, j ≤ k ∧ i = .int .i64 j ∧ Hid (Ext w1 wr)) (fun i _ => k - (intOf i).toNat)
  case atStart => exact ⟨0, by omega, rfl, hid (Ext.refl _)⟩
  case round =>
    obtain ⟨j, hj, rfl, HX⟩ := hrel
    have x1 := HX.out.cell x1
    have y1 := HX.out.cell y1
    by_cases hjk : j < k
    · obtain ⟨y, hy⟩ : ∃ y, hs[j]? = some y := ⟨_, List.getElem?_eq_getElem (by have := HKL.out; omega)⟩
      obtain ⟨b, off, rfl, cx, -⟩ := Sl.i64_at (H3.out.ext (HX1.out.trans HX.out)) hy
      obtain ⟨b', off', rfl, cy, -⟩ := Sl.i64_at (H4.out.ext (HX1.out.trans HX.out)) hy
      have hne : (y != y) = false := by simp
      clear hy
      go_wp2
      go_quiet (fail)
      go_wp2
      first
        | go_roundw
        | refine ⟨?rel, ?measure⟩
      case rel => exact ⟨j + 1, by omega, by go_num, hid (HX.out.drewN _)⟩
      case measure => simp [intOf]; omega
    · go_wp2
      go_ret
      exact ⟨rfl, HE0.out.trans (HX1.out.trans HX.out)⟩
end Go.Proofs.Ytcddmggefmfkkaa
