/- reloc: Sites; decompilerref07: Sites. -/
import Derived.Test.YtnlofhbimfcejaaRelD
import Derived.Test.YtnlofhbimfcejaaU32A
import Derived.Test.YtnlofhbimfcejaaApp
import Derived.Test.YtnlofhbimfcejaaReg
namespace Go.Proofs.Ytnlofhbimfcejaa
open Go.RowKit Go.Deco
set_option linter.unusedSimpArgs false
set_option linter.unusedVariables false

def relPlace (secs : List Sec) (r : Rl) : Option Nat := if r.sec < 0 then none else (secs[r.sec.toNat]?).map fun s => w32 (s.addr + r.off)
theorem placesOf_eq (o : Ob) : placesOf o = o.rels.filterMap (relPlace o.secs) := rfl
theorem place_some {secs : List Sec} {r : Rl} {k : Nat} {s : Sec} (h : r.sec = k) (hs : secs[k]? = some s) : relPlace secs r = some (w32 (s.addr + r.off)) := by
  unfold relPlace
  rw [if_neg (by omega), h, Int.toNat_natCast, hs]
  rfl
theorem place_none {secs : List Sec} {r : Rl} (h : r.sec < 0 ∨ (secs.length : Int) ≤ r.sec) : relPlace secs r = none := by
  unfold relPlace
  by_cases h1 : r.sec < 0
  · rw [if_pos h1]
  · rw [if_neg h1, List.getElem?_eq_none (by omega)]
    rfl
theorem fmap_snoc {E : Type} {f : E → Option Nat} {l : List E} {k : Nat} {x : E} (hk : l[k]? = some x) : (l.take (k + 1)).filterMap f = (l.take k).filterMap f ++ (f x).toList := by
  rw [take_snoc' hk, List.filterMap_append]
  cases h : f x <;> simp [h]
theorem fmap_len {E : Type} (f : E → Option Nat) (l : List E) : (l.filterMap f).length ≤ l.length := List.length_filterMap_le f l

theorem grown_cell {w w' : World} {row : Option Nat} {p : Addr} {v : Value} (hg : w.grownBy w' row) (h : w.cell? p = some v) (hne : some p.block ≠ row) : w'.cell? p = some v :=
  (World.cell?_of_block (w := w) (w' := w') (a := p) (hg.block p.block (World.block_lt_of_cell? _ _ h) hne)).trans h

set_option maxRecDepth 100000 in
set_option maxHeartbeats 4000000 in
theorem rlsites_any (w : World) (o : Ob) (As Ay Ar : Option Addr) (ns cs ny cy nr cr : Nat) (hs : Sl secR w All (.slice As ns cs) o.secs) (hr : Sl relR w All (.slice Ar nr cr) o.rels) (hn : nr ≤ 1000) :
    Calls Try.prog 15 #[.agg #[.int .u32 o.entry, .slice As ns cs, .slice Ay ny cy, .slice Ar nr cr]] w (ListOf w (asc (placesOf o))) := by
  obtain ⟨L, hL⟩ : ∃ L, asc (placesOf o) = L := ⟨_, rfl⟩
  rw [hL]
  rw [placesOf_eq] at hL
  obtain ⟨i0, hi, hz0, hz1, hz2⟩ := info_parts info_w32
  have HI := hid hi
  have HZ0 := hid hz0
  have HZ1 := hid hz1
  have HZ2 := hid hz2
  have HL := hid hL
  have HLS := hid hs.len
  have HLR := hid hr.len
  have hsc := hs.cap
  have hrc := hr.cap
  obtain ⟨en, hen⟩ : ∃ en, o.entry = en := ⟨_, rfl⟩
  rw [hen]
  obtain ⟨W0, hW0⟩ : ∃ W0, w.alloc (.cells #[.int .u32 en, .slice As ns cs, .slice Ay ny cy, .slice Ar nr cr] 27) = W0 := ⟨_, rfl⟩
  have hE0 : Ext w W0 := by rw [← hW0]; exact (Ext.refl w).alloc _
  have o1 : W0.cell? ⟨w.heap.size, 1, none⟩ = some (.slice As ns cs) := by rw [← hW0]; simp [go_sem]
  have o3 : W0.cell? ⟨w.heap.size, 3, none⟩ = some (.slice Ar nr cr) := by rw [← hW0]; simp [go_sem]
  have HE0 := hid hE0
  have HO1 := hid o1
  have HS := hid (hs.ext hE0)
  have HR := hid (hr.ext hE0)
  clear hi hz0 hz1 hz2 hL hs hr hen hE0 o1
  go_enter Try.func15, Try.ntmps15
  go_wp2
  clear hW0 o3
  go_loopw [3, 9] (fun v i wr => ∃ (j : Nat) (A' : Option Addr) (c' : Nat) (M : List Nat), j ≤ nr ∧ i = .int .i64 j ∧ v = .slice A' M.length c' ∧ M.length ≤ j ∧ Hid (OwnS u32R wr W0.heap.size 22 All (.slice A' M.length c') M) ∧ Hid (Ext W0 wr) ∧ Hid (M = (o.rels.take j).filterMap (relPlace o.secs))) (fun _ i _ => nr - (intOf i).toNat)
  case atStart => exact ⟨0, none, 0, [], by omega, rfl, rfl, by simp, hid OwnS.nil, hid (Ext.refl _), hid rfl⟩
  case round =>
    obtain ⟨j, A', c', M, hj, rfl, rfl, hMl, HO, HX, HM⟩ := hrel
    by_cases h1 : j < nr
    · obtain ⟨r, hk⟩ : ∃ r, o.rels[j]? = some r := ⟨_, List.getElem?_eq_getElem (by have := HLR.out; omega)⟩
      obtain ⟨b, off, rfl, -, c0, c1, c2, c3, c4⟩ := Sl.rel_at (HR.out.ext HX.out) hk
      have o1 := HX.out.cell HO1.out
      have hlt := World.block_lt_of_cell? _ _ o1
      have hsn := fmap_snoc (f := relPlace o.secs) hk
      obtain ⟨sec, of_, kd, sym, add⟩ := r
      dsimp only at c0 c1 c2 c3 c4
      have HX3 := hid ((Ext.refl wr).alloc (.cells #[.int .i64 sec, .int .i64 of_, .int .i64 kd, .string sym, .int .i32 add] 36))
      have HX4 := hid (HX.out.trans HX3.out)
      have HO3 := hid (HO.out.ext HX3.out)
      clear hk
      by_cases h2 : sec < 0 ∨ (ns : Int) ≤ sec
      · rw [place_none (r := ⟨sec, of_, kd, sym, add⟩) (by have := HLS.out; show sec < 0 ∨ (o.secs.length : Int) ≤ sec; omega)] at hsn
        have HSN : Hid (M = (o.rels.take (j + 1)).filterMap (relPlace o.secs)) := hid (by rw [hsn, HM.out]; simp)
        clear hsn
        rcases h2 with h2 | h2
        · go_wp2
          first
            | go_roundw
            | refine ⟨?rel, ?measure⟩
          case rel => exact ⟨j + 1, A', c', M, by omega, by go_num, rfl, by omega, HO3, HX4, HSN⟩
          case measure => simp [intOf]; omega
        · have h3 : (0 : Int) ≤ sec := by omega
          go_wp2
          first
            | go_roundw
            | refine ⟨?rel, ?measure⟩
          case rel => exact ⟨j + 1, A', c', M, by omega, by go_num, rfl, by omega, HO3, HX4, HSN⟩
          case measure => simp [intOf]; omega
      · obtain ⟨k, rfl⟩ : ∃ k : Nat, sec = k := ⟨sec.toNat, by omega⟩
        obtain ⟨s, hs⟩ : ∃ s, o.secs[k]? = some s := ⟨_, List.getElem?_eq_getElem (by have := HLS.out; omega)⟩
        rw [place_some (r := ⟨k, of_, kd, sym, add⟩) rfl hs] at hsn
        obtain ⟨p, hp⟩ : ∃ p, w32 ((s.addr : Int) + of_) = p := ⟨_, rfl⟩
        obtain ⟨a, ha⟩ : ∃ a, w32 of_ = a := ⟨_, rfl⟩
        have e1 : IntKind.u32.wrap of_ = (a : Int) := by rw [wrap_w32, ha]
        have e2 : IntKind.u32.wrap ((s.addr : Int) + a) = (p : Int) := by rw [wrap_w32, ← ha, w32_addR, hp]
        have hpl : p < 4294967296 := by rw [← hp]; exact w32_lt _
        have HSN : Hid (M ++ [p] = (o.rels.take (j + 1)).filterMap (relPlace o.secs)) := hid (by rw [hsn, HM.out, ← hp]; rfl)
        obtain ⟨b5, o5, dA, dc, rfl, -, -, -, -, -, d1, -, -, -⟩ := (HS.out.ext HX.out).sec_at hs
        have hb5 : b5 < W0.heap.size := by
          obtain ⟨b6, o6, dA6, dc6, hA, -, -, -, -, q0, -, -, -, -⟩ := HS.out.sec_at hs
          cases hA
          exact World.block_lt_of_cell? _ _ q0
        have HB5 := hid hb5
        clear hb5
        have i1 : (0 : Int) ≤ (k : Int) := by omega
        have i2 : (k : Int) < (ns : Int) := by omega
        have HPL := hid hpl
        clear hsn hp ha hs h2 hpl
        obtain ⟨W1, hW1⟩ : ∃ W1, wr.alloc (.cells #[.int .i64 k, .int .i64 of_, .int .i64 kd, .string sym, .int .i32 add] 36) = W1 := ⟨_, rfl⟩
        rw [hW1] at HX3 HX4 HO3
        have x0 : W1.cell? ⟨wr.heap.size, 0, none⟩ = some (.int .i64 k) := by rw [← hW1]; simp [go_sem]
        have x1 : W1.cell? ⟨wr.heap.size, 1, none⟩ = some (.int .i64 of_) := by rw [← hW1]; simp [go_sem]
        have o1 := HX3.out.cell o1
        have d1 := HX3.out.cell d1
        go_wp2_with fail
        clear hW1 c0 c1 c2 c3 c4 hlt
        refine wp_region_held_drew (S := (fun w' => w'.cell? ⟨w.heap.size, 1, none⟩ = some (.slice (some ⟨b5, o5, none⟩) ns cs) ∧ w'.cell? ⟨wr.heap.size, 0, none⟩ = some (.int .i64 k) ∧ w'.cell? ⟨wr.heap.size, 1, none⟩ = some (.int .i64 of_) ∧ w'.cell? ⟨b5, o5 + k * 5 + 1, none⟩ = some (.int .u32 s.addr))) (by kernel_rfl) ⟨o1, x0, x1, d1⟩ (fun hSg18q0 => ?_)
        refine wpAnyH_takeL (i := 0) (v := ?g18qv0) rfl (by kernel_rfl) (by kernel_rfl) (by kernel_rfl) (fun _ _ _ h => h) (Or.inl ⟨by rfl, ?g18qy0⟩) (by assumption) ?g18qr0
        case g18qy0 => first | (intro w hSw; (try dsimp only at hSw); go_simp; done) | (intro w hSw; (try dsimp only at hSw); go_simp; with_reducible rfl)
        case' g18qr0 => try simp only [Act.put, List.setIfInBounds_toArray, List.set_cons_zero, List.set_cons_succ]
        refine wpAnyH_takeL (i := 1) (v := ?g18qv1) rfl (by kernel_rfl) (by kernel_rfl) (by kernel_rfl) (fun _ _ _ h => h) (Or.inl ⟨by rfl, ?g18qy1⟩) (by assumption) ?g18qr1
        case g18qy1 => first | (intro w hSw; (try dsimp only at hSw); go_simp; done) | (intro w hSw; (try dsimp only at hSw); go_simp; with_reducible rfl)
        case' g18qr1 => try simp only [Act.put, List.setIfInBounds_toArray, List.set_cons_zero, List.set_cons_succ]
        refine wpAnyH_takeL (i := 2) (v := ?g18qv2) rfl (by kernel_rfl) (by kernel_rfl) (by kernel_rfl) (fun _ _ _ h => h) (Or.inl ⟨by rfl, ?g18qy2⟩) (by assumption) ?g18qr2
        case g18qy2 => first | (intro w hSw; (try dsimp only at hSw); go_simp; done) | (intro w hSw; (try dsimp only at hSw); go_simp; with_reducible rfl)
        case' g18qr2 => try simp only [Act.put, List.setIfInBounds_toArray, List.set_cons_zero, List.set_cons_succ]
        refine wpAnyH_takeL (i := 3) (v := ?g18qv3) rfl (by kernel_rfl) (by kernel_rfl) (by kernel_rfl) (fun _ _ _ h => h) (Or.inl ⟨by rfl, ?g18qy3⟩) (by assumption) ?g18qr3
        case g18qy3 => first | (intro w hSw; (try dsimp only at hSw); go_simp; done) | (intro w hSw; (try dsimp only at hSw); go_simp; with_reducible rfl)
        case' g18qr3 => try simp only [Act.put, List.setIfInBounds_toArray, List.set_cons_zero, List.set_cons_succ]
        refine wpAnyH_takeL (i := 4) (v := ?g18qv4) rfl (by kernel_rfl) (by kernel_rfl) (by kernel_rfl) (fun _ _ _ h => h) (Or.inl ⟨by rfl, ?g18qy4⟩) (by assumption) ?g18qr4
        case g18qy4 => first | (intro w hSw; (try dsimp only at hSw); go_simp; done) | (intro w hSw; (try dsimp only at hSw); go_simp; with_reducible rfl)
        case' g18qr4 => try simp only [Act.put, List.setIfInBounds_toArray, List.set_cons_zero, List.set_cons_succ]
        refine wpAnyH_takeL (i := 5) (v := ?g18qv5) rfl (by kernel_rfl) (by kernel_rfl) (by kernel_rfl) (fun _ _ _ h => h) (Or.inl ⟨by rfl, ?g18qy5⟩) (by assumption) ?g18qr5
        case g18qy5 => first | (intro w hSw; (try dsimp only at hSw); go_simp; done) | (intro w hSw; (try dsimp only at hSw); go_simp; with_reducible rfl)
        case' g18qr5 => try simp only [Act.put, List.setIfInBounds_toArray, List.set_cons_zero, List.set_cons_succ]
        refine wpAnyH_takeL (i := 6) (v := ?g18qv6) rfl (by kernel_rfl) (by kernel_rfl) (by kernel_rfl) (fun _ _ _ h => h) (Or.inl ⟨by rfl, ?g18qy6⟩) (by assumption) ?g18qr6
        case g18qy6 => first | (intro w hSw; (try dsimp only at hSw); go_simp; done) | (intro w hSw; (try dsimp only at hSw); go_simp; with_reducible rfl)
        case' g18qr6 => try simp only [Act.put, List.setIfInBounds_toArray, List.set_cons_zero, List.set_cons_succ]
        refine wpAnyH_takeL (i := 7) (v := ?g18qv7) rfl (by kernel_rfl) (by kernel_rfl) (by kernel_rfl) (fun _ _ _ h => h) (Or.inl ⟨by rfl, ?g18qy7⟩) (by assumption) ?g18qr7
        case g18qy7 => first | (intro w hSw; (try dsimp only at hSw); go_simp; done) | (intro w hSw; (try dsimp only at hSw); go_simp; with_reducible rfl)
        case' g18qr7 => try simp only [Act.put, List.setIfInBounds_toArray, List.set_cons_zero, List.set_cons_succ]
        refine wpAnyH_takeL (i := 8) (v := ?g18qv8) rfl (by kernel_rfl) (by kernel_rfl) (by kernel_rfl) (fun _ _ _ h => h) (Or.inl ⟨by rfl, ?g18qy8⟩) (by assumption) ?g18qr8
        case g18qy8 => first | (intro w hSw; (try dsimp only at hSw); go_simp; done) | (intro w hSw; (try dsimp only at hSw); go_simp; with_reducible rfl)
        case' g18qr8 => try simp only [Act.put, List.setIfInBounds_toArray, List.set_cons_zero, List.set_cons_succ]
        refine wpAnyH_takeL (i := 9) (v := ?g18qv9) rfl (by kernel_rfl) (by kernel_rfl) (by kernel_rfl) (fun _ _ _ h => h) (Or.inl ⟨by rfl, ?g18qy9⟩) (by assumption) ?g18qr9
        case g18qy9 => first | (intro w hSw; (try dsimp only at hSw); go_simp; done) | (intro w hSw; (try dsimp only at hSw); go_simp; with_reducible rfl)
        case' g18qr9 => try simp only [Act.put, List.setIfInBounds_toArray, List.set_cons_zero, List.set_cons_succ]
        refine wpAnyH_takeL (i := 10) (v := ?g18qv10) rfl (by kernel_rfl) (by kernel_rfl) (by kernel_rfl) (fun _ _ _ h => h) (Or.inl ⟨by rfl, ?g18qy10⟩) (by assumption) ?g18qr10
        case g18qy10 => first | (intro w hSw; (try dsimp only at hSw); go_simp; done) | (intro w hSw; (try dsimp only at hSw); go_simp; with_reducible rfl)
        case' g18qr10 => try simp only [Act.put, List.setIfInBounds_toArray, List.set_cons_zero, List.set_cons_succ]
        refine wpAnyH_takeL (i := 11) (v := ?g18qv11) rfl (by kernel_rfl) (by kernel_rfl) (by kernel_rfl) (fun _ _ _ h => h) (Or.inl ⟨by rfl, ?g18qy11⟩) (by assumption) ?g18qr11
        case g18qy11 => first | (intro w hSw; (try dsimp only at hSw); go_simp; done) | (intro w hSw; (try dsimp only at hSw); go_simp; with_reducible rfl)
        case' g18qr11 => try simp only [Act.put, List.setIfInBounds_toArray, List.set_cons_zero, List.set_cons_succ]
        refine wpAnyH_ready (rs := [12]) (by kernel_rfl) (by simp) ?_
        refine AllReadyH.consL rfl (fun K hK => ?_) AllReadyH.nil
        go_simp
        refine hK.out _ _ ⟨((Ext.refl W1).drew.alloc _).cell o1, ((Ext.refl W1).drew.alloc _).cell x0, ((Ext.refl W1).drew.alloc _).cell x1, ((Ext.refl W1).drew.alloc _).cell d1⟩ (fun hSg18q1 => ?_)
        clear hK K
        try simp only [Act.put, List.setIfInBounds_toArray, List.set_cons_zero, List.set_cons_succ]
        refine wpAnyH_ready (rs := [13]) (by kernel_rfl) (by simp) ?_
        refine AllReadyH.consL rfl (fun K hK => ?_) AllReadyH.nil
        refine step_app1 rfl (.tmp 24) (.tmp 36) 33 rfl W0.heap.size 22 i0 _ 1 4 Try.underlying33 HI.out HZ0.out HZ1.out HZ2.out rfl u32R rfl (.slice A' M.length c') M rfl HO3.out.dr p rfl ⟨rfl, HPL.out⟩ (by omega) (by omega) (by exact HX4.out.drew.size) ?_
        intro A5 c5 w5 hown5 hg5
        have HO5 := hid hown5
        have HG5 := hid hg5
        have hrow : ∀ b, (b < W0.heap.size ∨ wr.heap.size ≤ b) → some b ≠ (Value.slice A' M.length c').ownBlock := fun b hb e => by have := HO.out.block b e.symm; omega
        have HX5 := hid ((HX4.out.drew.alloc _).grown hg5 (fun k hk => (HO.out.block _ hk).1))
        have HR5 := hid (And.intro (hrow w.heap.size (.inl (World.block_lt_of_cell? _ _ HO1.out))) (And.intro (hrow wr.heap.size (.inr (Nat.le_refl _))) (hrow b5 (.inl HB5.out))))
        clear hown5 hg5 hrow
        refine hK.out _ _ ⟨grown_cell HG5.out (((Ext.refl W1).drew.alloc _).cell o1) HR5.out.1, grown_cell HG5.out (((Ext.refl W1).drew.alloc _).cell x0) HR5.out.2.1, grown_cell HG5.out (((Ext.refl W1).drew.alloc _).cell x1) HR5.out.2.1, grown_cell HG5.out (((Ext.refl W1).drew.alloc _).cell d1) HR5.out.2.2⟩ (fun hSg18q2 => ?_)
        clear hK K
        try simp only [Act.put, List.setIfInBounds_toArray, List.set_cons_zero, List.set_cons_succ]
        refine wpAnyH_takeL (i := 14) (v := ?g18qv14) rfl (by kernel_rfl) (by kernel_rfl) (by kernel_rfl) (fun _ _ _ h => h) (Or.inl ⟨by rfl, ?g18qy14⟩) (by assumption) ?g18qr14
        case g18qy14 => first | (intro w hSw; (try dsimp only at hSw); go_simp; done) | (intro w hSw; (try dsimp only at hSw); go_simp; with_reducible rfl)
        case' g18qr14 => try simp only [Act.put, List.setIfInBounds_toArray, List.set_cons_zero, List.set_cons_succ]
        refine wpAnyH_done (by kernel_rfl) ?_ _
        clear o1 x0 x1 d1
        go_wp2
        first
          | go_roundw
          | refine ⟨?rel, ?measure⟩
        case rel => exact ⟨j + 1, A5, c5, M ++ [p], by omega, by go_num, by simp, by simp; omega, hid (by simpa using HO5.out), HX5, HSN⟩
        case measure => simp [intOf]; omega
    · obtain rfl : j = nr := by omega
      have he : asc M = L := by
        rw [HM.out, List.take_of_length_le (by have := HLR.out; omega)]
        exact HL.out
      have HE := hid he
      have hMl2 : M.length < 4611686018427387904 := by omega
      clear he
      go_wp2_with fail
      refine (sort_own HO.out hMl2).mono ?_
      rintro e w2 ⟨rfl, ho2, hg2⟩
      have HO2 := hid ho2
      have HX2 := hid (HX.out.grown hg2 (fun k hk => (HO.out.block _ hk).1))
      clear ho2 hg2
      go_wp2_with fail
      refine (compact_any W0 w2 HX2.out A' M.length c' (sorted32 M) HO2.out (by omega)).mono ?_
      rintro e w3 ⟨hx3, A3, c3, rfl, ho3⟩
      have e2 : ddn (sorted32 M) M.length = L := by
        have h1 : (sorted32 M).Pairwise (· ≤ ·) := by
          have : (sorted32 M).Pairwise (fun a b => decide (a ≤ b) = true) := List.pairwise_mergeSort (fun a b c h1 h2 => by simp at h1 h2 ⊢; omega) (fun a b => by simp; omega) M
          exact this.imp fun h => by simpa using h
        rw [ddn_sorted h1 M.length (by rw [sorted32_length]; exact Nat.le_refl _), List.take_of_length_le (by rw [sorted32_length]; exact Nat.le_refl _), ← HE.out]
        exact asc_eq fun a => sorted32_mem
      have HX3 := hid hx3
      have HS3 := hid ho3.sl
      rw [e2] at HS3 ⊢
      clear hx3 ho3 e2
      go_wp2
      go_ret
      exact ⟨HE0.out.trans HX3.out, A3, c3, rfl, HS3.out⟩
end Go.Proofs.Ytnlofhbimfcejaa
