/- The law StructsOrder. -/
import Derived.Test.YtacmjhcfjhpkeaaGreatDoorL34Em
import Derived.Test.YtacmjhcfjhpkeaaGreatDoorStQm
namespace Go.Proofs.YtacmjhcfjhpkeaaGreatDoor
open Go.RowKit Go.Deco
set_option linter.unusedSimpArgs false
set_option linter.unusedVariables false
theorem info_racc : (Tryz.prog.info? 39).map (fun i => (i.zero, i.size, i.bytes)) = some (some (.agg #[.int .i64 0, .int .i64 0, .int .i64 0, .bool false]), 4, 32) := by kernel_rfl
section
variable {w : World} {base g n c k : Nat} {t : TypeId} {T : Nat → Prop} {l : List Acc} {x y : Acc}
theorem acc_cells (h : OwnS accR w base t T (.slice (some ⟨g, 0, none⟩) n c) l) (hk : l[k]? = some x) :
  (w.cell? ⟨g, k * 4, none⟩ = some (.int .i64 x.base) ∧ w.cell? ⟨g, k * 4 + 1, none⟩ = some (.int .i64 x.off) ∧ w.cell? ⟨g, k * 4 + 2, none⟩ = some (.int .i64 x.width) ∧ w.cell? ⟨g, k * 4 + 3, none⟩ = some (.bool x.sgn)) ∧
  (w.frozen? ⟨g, k * 4, none⟩ = false ∧ w.frozen? ⟨g, k * 4 + 1, none⟩ = false ∧ w.frozen? ⟨g, k * 4 + 2, none⟩ = false ∧ w.frozen? ⟨g, k * 4 + 3, none⟩ = false) ∧ (i64b x.base ∧ i64b x.off ∧ i64b x.width) := by
 obtain ⟨cs, hr, hc⟩ := h.cells hk
 obtain ⟨rfl, hi⟩ := hr
 have e0 := hc 0 _ rfl
 have e1 := hc 1 _ rfl
 have e2 := hc 2 _ rfl
 have e3 := hc 3 _ rfl
 exact ⟨⟨e0.1, e1.1, e2.1, e3.1⟩, ⟨e0.2, e1.2, e2.2, e3.2⟩, hi⟩
theorem acc_put (h : OwnS accR w base t T (.slice (some ⟨g, 0, none⟩) n c) l) (hk : l[k]? = some x) (hy : i64b y.base ∧ i64b y.off ∧ i64b y.width) :
  OwnS accR ((((w.setCell ⟨g, k * 4, none⟩ (.int .i64 y.base)).setCell ⟨g, k * 4 + 1, none⟩ (.int .i64 y.off)).setCell ⟨g, k * 4 + 2, none⟩ (.int .i64 y.width)).setCell ⟨g, k * 4 + 3, none⟩ (.bool y.sgn)) base t T (.slice (some ⟨g, 0, none⟩) n c) (l.set k y) :=
 h.put (cs := accCells y) hk ⟨rfl, hy⟩
end
theorem ext4 {a w : World} {b i : Nat} (h : Ext a w) (hb : a.heap.size ≤ b) (v0 v1 v2 v3 : Value) : Ext a ((((w.setCell ⟨b, i, none⟩ v0).setCell ⟨b, i + 1, none⟩ v1).setCell ⟨b, i + 2, none⟩ v2).setCell ⟨b, i + 3, none⟩ v3) :=
 (((h.setCell (p := ⟨b, i, none⟩) hb v0).setCell (p := ⟨b, i + 1, none⟩) hb v1).setCell (p := ⟨b, i + 2, none⟩) hb v2).setCell (p := ⟨b, i + 3, none⟩) hb v3
set_option maxRecDepth 100000 in
set_option maxHeartbeats 4000000 in
theorem orderlaw_any (w : World) (ht : Tab10 w) (hg : TabAt w) (A : Option Addr) (n c : Nat) (l : List Acc) (hl : Sl accR w All (.slice A n c) l) (q : Nat) (hq : q < 256) : Calls Tryz.prog 6 #[.slice A n c, .int .u8 q] w (TBool w true) := by
 have HT := hid ht
 have HG := hid hg
 have HL := hid (hl.mono (S' := fun b => b < w.heap.size) fun b _ h => h.lt)
 have HLN := hid hl.len
 obtain ⟨hnc, hcm⟩ := hl.cap
 obtain ⟨i0, hi, hz0, hz1, hz2⟩ := info_parts info_racc
 have HI := hid hi
 have HZ0 := hid hz0
 have HZ1 := hid hz1
 have HZ2 := hid hz2
 have HCL := hid (layout_any)
 clear hi hz0 hz1 hz2 ht hg hl
 by_cases h0 : (n : Int) > 40
 case pos =>
  have g0 : decide ((n : Int) > 40) = true := decide_eq_true h0
  go_enter Tryz.func6, Tryz.ntmps6
  have HXLw9 := hid (lex_any w (HT.out.ext (Ext.refl w)) (HG.out.ext (Ext.refl w)))
  go_wp2_with fail
  refine HXLw9.out.mono ?_
  rintro e w9 ⟨rfl, hx⟩
  have HXw9 := hid (Ext.trans (Ext.refl w) hx)
  clear hx
  go_wp2
  go_ret
  exact ⟨rfl, HXw9.out⟩
 have g0 : decide ((n : Int) > 40) = false := decide_eq_false h0
 have hn : n ≤ 40 := by omega
 clear h0
 by_cases h0 : n = 0
 case pos =>
  subst h0
  go_enter Tryz.func6, Tryz.ntmps6
  have HXLw9 := hid (lex_any w (HT.out.ext (Ext.refl w)) (HG.out.ext (Ext.refl w)))
  go_wp2_with fail
  refine HXLw9.out.mono ?_
  rintro e w9 ⟨rfl, hx⟩
  have HXw9 := hid (Ext.trans (Ext.refl w) hx)
  clear hx
  go_wp2
  go_ret
  exact ⟨rfl, HXw9.out⟩
 have g1 : ((n : Int) == 0) = false := by simp; omega
 obtain ⟨k, hk⟩ : ∃ k, q % n = k := ⟨_, rfl⟩
 have hkn : k < n := by rw [← hk]; exact Nat.mod_lt _ (by omega)
 have hn0 : (n : Int) ≠ 0 := by omega
 have htm : Int.tmod (q : Int) (n : Int) = (k : Int) := by rw [← hk]; exact (Int.ofNat_tmod q n).symm
 clear hk
 obtain ⟨x, hx⟩ : ∃ x, l[k]? = some x := ⟨_, List.getElem?_eq_getElem (by have := HLN.out; omega)⟩
 obtain ⟨b, off, rfl, x0, x1, x2, x3, hi0, hi1, hi2⟩ := HL.out.acc_at hx
 have HXC := hid (fun W (hW : Ext w W) => And.intro (hW.cell x0) (And.intro (hW.cell x1) (And.intro (hW.cell x2) (hW.cell x3))))
 have HII := hid (And.intro hi0 (And.intro hi1 hi2))
 have HDL : Hid ((l.drop k).length = n - k) := hid (by rw [List.length_drop, ← HLN.out])
 have HNK : Hid (n - k + k = n) := hid (by omega)
 have HKL : Hid ((l.drop k ++ l.take k).length = n) := hid (by rw [List.length_append, List.length_drop, List.length_take, ← HLN.out]; omega)
 have HMM : Hid (∀ a, a ∈ l.drop k ++ l.take k ++ [x] ↔ a ∈ l) := hid (fun a => by
  simp only [List.mem_append, List.mem_singleton]
  constructor
  ·rintro ((h | h) | rfl)
   ·exact List.mem_of_mem_drop h
   ·exact List.mem_of_mem_take h
   ·exact List.mem_of_getElem? hx
  ·intro h
   rw [← List.take_append_drop k l, List.mem_append] at h
   exact .inl h.symm)
 have hkI : (k : Int) < (n : Int) := by omega
 have hkI0 : (0 : Int) ≤ (k : Int) := by omega
 obtain ⟨xb, xo, xw, xs⟩ := x
 simp only at x0 x1 x2 x3 HXC HII
 clear hx hi0 hi1 hi2 x0 x1 x2 x3
 go_enter Tryz.func6, Tryz.ntmps6
 go_wp2_with (first
  | ((with_reducible refine wpList_at_slice 30 (.tmp 28) (some (.tmp 29)) none rfl rfl ?_); refine wpList_from rfl 30 39 (.tmp 28) (.tmp 29) rfl Tryz.underlying30 i0 HI.out accR HZ1.out rfl HL.out k rfl (by omega) ?_; intro A2 hA2; have HA2 := hid hA2; clear hA2)
  | (at_builtin; refine wpList_appS rfl (.tmp 27) (.tmp 30) 30 rfl w.heap.size 39 i0 _ 4 32 Tryz.underlying30 HI.out HZ0.out HZ1.out HZ2.out rfl accR rfl _ [] rfl (OwnS.nil (T := fun b => b < w.heap.size)) A2 (n - k) (c - k) (l.drop k) (fun b => b < w.heap.size) rfl HA2.out (fun b hb _ => ⟨hb, own_nil⟩) (by simp; omega) (by simp; omega) (Nat.le_refl _) ?_; intro A3 c3 w3 hown3 hg3 hloc3; have HX3 := hid ((Ext.refl w).grown hg3 (fun q hq => (own_nil hq.symm).elim)); have HO3 : Hid (OwnS accR w3 w.heap.size 39 (fun b => b < w.heap.size) (.slice A3 (n - k) c3) (l.drop k)) := hid (by simpa using hown3); clear hown3 hg3 hloc3; simp only [List.length_nil, Nat.zero_add])
  | ((with_reducible refine wpList_at_slice 30 (.tmp 33) none (some (.tmp 34)) rfl rfl ?_); refine wpList_to rfl 30 39 (.tmp 33) (.tmp 34) rfl Tryz.underlying30 i0 HI.out accR HZ1.out rfl (HL.out.ext HX3.out) k rfl (by omega) ?_; intro A4 hA4; have HA4 := hid hA4; clear hA4)
  | (at_builtin; refine wpList_appS rfl (.tmp 32) (.tmp 35) 30 rfl w.heap.size 39 i0 _ 4 32 Tryz.underlying30 HI.out HZ0.out HZ1.out HZ2.out rfl accR rfl (.slice A3 (n - k) c3) (l.drop k) rfl HO3.out A4 k c (l.take k) (fun b => b < w.heap.size) rfl HA4.out (fun b hb _ => ⟨hb, fun e => by have h1 := (HO3.out.block b e.symm).1; omega⟩) (by rw [HDL.out]; omega) (by rw [HDL.out]; omega) (by exact HX3.out.size) ?_; intro A5 c5 w5 hown5 hg5 hloc5; rw [HDL.out, HNK.out] at hown5; rw [HDL.out, HNK.out]; have HX5 := hid (HX3.out.grown hg5 (fun k hk => (HO3.out.block _ hk).1)); have HO5 := hid hown5; clear hown5 hg5 hloc5; obtain ⟨x0, x1, x2, x3⟩ := HXC.out w5 HX5.out)
  | (at_builtin; refine wpList_app1l rfl (.tmp 37) (.tmp 42) 30 rfl w.heap.size 39 i0 _ 4 32 Tryz.underlying30 HI.out HZ0.out HZ1.out HZ2.out rfl accR rfl (.slice A5 n c5) (l.drop k ++ l.take k) rfl HO5.out w5.heap.size rfl (⟨xb, xo, xw, xs⟩ : Acc) rfl ⟨rfl, HII.out⟩ (by rw [HKL.out]; omega) (by rw [HKL.out]; omega) (by exact HX5.out.size) ?_; intro A6 c6 w6 hown6 hg6 hloc6; rw [HKL.out] at hown6; have hx6 := (HX5.out.alloc _).grown hg6 (fun k hk => (HO5.out.block _ hk).1); have HO6 := hid hown6; have HX6 := hid hx6; clear hown6 hg6 hx6 hloc6; rw [HKL.out])
  | fail)
 obtain ⟨g, rfl, hg1, hg2⟩ := HO6.out.at0 (by omega)
 have hq2 : Int.tdiv (n : Int) 2 = ((n / 2 : Nat) : Int) := by exact (Int.ofNat_tdiv n 2).symm
 clear x0 x1 x2 x3
 go_loopw [7] (fun i wr => ∃ (j : Nat) (L : List Acc), j ≤ n / 2 ∧ i = .int .i64 j ∧ Hid (OwnS accR wr w.heap.size 39 (fun b => b < w.heap.size) (.slice (some ⟨g, 0, none⟩) (n + 1) c6) L) ∧ Hid (∀ a, a ∈ L ↔ a ∈ l) ∧ Hid (Ext w wr)) (fun i _ => n - (intOf i).toNat)
 case atStart => exact ⟨0, _, by omega, rfl, HO6, HMM, HX6⟩
 case round =>
  obtain ⟨j, L, hj, rfl, HO, HM, HX⟩ := hrel
  by_cases h1 : j < n / 2
  ·have hji : (j : Int) < ((n / 2 : Nat) : Int) := by omega
   have hLL := HO.out.len
   obtain ⟨y, hy⟩ : ∃ y, L[j]? = some y := ⟨_, List.getElem?_eq_getElem (by omega)⟩
   obtain ⟨p, hp⟩ : ∃ p, n - 1 - j = p := ⟨_, rfl⟩
   have hpj : j < p := by omega
   have hpn : p < n + 1 := by omega
   obtain ⟨z, hz⟩ : ∃ z, L[p]? = some z := ⟨_, List.getElem?_eq_getElem (by omega)⟩
   obtain ⟨⟨y0, y1, y2, y3⟩, ⟨fy0, fy1, fy2, fy3⟩, hyi⟩ := acc_cells HO.out hy
   obtain ⟨⟨z0, z1, z2, z3⟩, ⟨fz0, fz1, fz2, fz3⟩, hzi⟩ := acc_cells HO.out hz
   have w1 : IntKind.i64.wrap ((n : Int) - 1) = (n : Int) - 1 := IntWalk.i64_in _ (by omega)
   have w2 : IntKind.i64.wrap ((n : Int) - 1 - (j : Int)) = (p : Int) := by rw [IntWalk.i64_in _ (by omega)]; omega
   have b1 : (j : Int) < ((n + 1 : Nat) : Int) := by omega
   have b2 : (p : Int) < ((n + 1 : Nat) : Int) := by omega
   have b3 : (0 : Int) ≤ (p : Int) := by omega
   have HY := hid hy
   have HZ := hid hz
   have HYI := hid hyi
   have HZI := hid hzi
   clear hy hz hyi hzi hLL hp
   obtain ⟨yb, yo, yw, ys⟩ := y
   obtain ⟨zb, zo, zw, zs⟩ := z
   simp only at y0 y1 y2 y3 z0 z1 z2 z3 HYI HZI
   go_upto_region 12 with fail
   have hne : wr.heap.size ≠ g := by have := (HO.out.block g rfl).2; omega
   have HE1 := hid ((Ext.refl wr).alloc (.cells #[.int .i64 yb, .int .i64 yo, .int .i64 yw, .bool ys] 39))
   obtain ⟨W1, hW1⟩ : ∃ W1, wr.alloc (.cells #[.int .i64 yb, .int .i64 yo, .int .i64 yw, .bool ys] 39) = W1 := ⟨_, rfl⟩
   have q0 : W1.cell? ⟨wr.heap.size, 0, none⟩ = some (.int .i64 yb) := by rw [← hW1]; simp [go_sem]
   have q1 : W1.cell? ⟨wr.heap.size, 1, none⟩ = some (.int .i64 yo) := by rw [← hW1]; simp [go_sem]
   have q2 : W1.cell? ⟨wr.heap.size, 2, none⟩ = some (.int .i64 yw) := by rw [← hW1]; simp [go_sem]
   have q3 : W1.cell? ⟨wr.heap.size, 3, none⟩ = some (.bool ys) := by rw [← hW1]; simp [go_sem]
   rw [hW1] at HE1 ⊢
   have HO1 := hid (HO.out.ext HE1.out)
   clear hW1 y0 y1 y2 y3 z0 z1 z2 z3 fy0 fy1 fy2 fy3 fz0 fz1 fz2 fz3
   obtain ⟨⟨y0, y1, y2, y3⟩, ⟨fy0, fy1, fy2, fy3⟩, -⟩ := acc_cells HO1.out HY.out
   obtain ⟨⟨z0, z1, z2, z3⟩, ⟨fz0, fz1, fz2, fz3⟩, -⟩ := acc_cells HO1.out HZ.out
   have HO2' := hid (acc_put (y := ⟨zb, zo, zw, zs⟩) HO1.out HY.out HZI.out)
   have HE2' := hid (ext4 (i := j * 4) (HX.out.trans HE1.out) hg1 (.int .i64 zb) (.int .i64 zo) (.int .i64 zw) (.bool zs))
   simp only at HO2' HE2'
   obtain ⟨W2, hW2⟩ : ∃ W2, (((W1.setCell ⟨g, j * 4, none⟩ (.int .i64 zb)).setCell ⟨g, j * 4 + 1, none⟩ (.int .i64 zo)).setCell ⟨g, j * 4 + 2, none⟩ (.int .i64 zw)).setCell ⟨g, j * 4 + 3, none⟩ (.bool zs) = W2 := ⟨_, rfl⟩
   have r0 : W2.cell? ⟨wr.heap.size, 0, none⟩ = some (.int .i64 yb) := by rw [← hW2]; simp [World.cell?_setCell_other, hne, q0]
   have r1 : W2.cell? ⟨wr.heap.size, 1, none⟩ = some (.int .i64 yo) := by rw [← hW2]; simp [World.cell?_setCell_other, hne, q1]
   have r2 : W2.cell? ⟨wr.heap.size, 2, none⟩ = some (.int .i64 yw) := by rw [← hW2]; simp [World.cell?_setCell_other, hne, q2]
   have r3 : W2.cell? ⟨wr.heap.size, 3, none⟩ = some (.bool ys) := by rw [← hW2]; simp [World.cell?_setCell_other, hne, q3]
   rw [hW2] at HO2' HE2'
   have hp2 : (L.set j (⟨zb, zo, zw, zs⟩ : Acc))[p]? = some ⟨zb, zo, zw, zs⟩ := by rw [List.getElem?_set_ne (by omega)]; exact HZ.out
   have HP2 := hid hp2
   have HW2 := hid hW2
   clear hp2 hW2
   go_upto_region 13 with fail
   rw [HW2.out]
   clear y0 y1 y2 y3 z0 z1 z2 z3 fy0 fy1 fy2 fy3 fz0 fz1 fz2 fz3 q0 q1 q2 q3
   obtain ⟨⟨z0, z1, z2, z3⟩, ⟨fz0, fz1, fz2, fz3⟩, -⟩ := acc_cells HO2'.out HP2.out
   have HO3 := hid (acc_put (y := ⟨yb, yo, yw, ys⟩) HO2'.out HP2.out HYI.out)
   have HE3 := hid (ext4 (i := p * 4) HE2'.out hg1 (.int .i64 yb) (.int .i64 yo) (.int .i64 yw) (.bool ys))
   simp only at HO3 HE3
   go_wp2
   first
    | go_roundw
    | refine ⟨?rel, ?measure⟩
   case rel => exact ⟨j + 1, _, by omega, by go_num, HO3, hid (fun a => (mem_swap HY.out HZ.out a).trans (HM.out a)), HE3⟩
   case measure => simp [intOf]; omega
  ·have hji : ¬ (j : Int) < ((n / 2 : Nat) : Int) := by omega
   clear hq2
   have HLL := hid HO.out.len
   have HS := hid (HO.out.sl)
   have HPL := hid (fun W (hW : Ext w W) => lprog_any W (some ⟨b, off, none⟩) n c l ((HL.out.mono (S' := All) fun b _ _ => trivial).ext hW) (by omega))
   have HPM := hid (fun W (hW : Ext wr W) => lprog_any W (some ⟨g, 0, none⟩) (n + 1) c6 L (HS.out.ext hW) (by omega))
   unfold ProgIs at HPL HPM
   rw [← HLN.out] at HPL
   rw [← HLL.out] at HPM
   have HLS : Hid (layoutA L = layoutA l) := hid (layout_set HM.out (by have := HLL.out; omega) (by have := HLN.out; omega))
   have HC1 := hid (fun W A' c' (h : Sl accR W All (.slice A' n c') l) => layout_any W A' n c' l h)
   have HC2 := hid (fun W A' c' (h : Sl accR W All (.slice A' (n + 1) c') L) => layout_any W A' (n + 1) c' L h)
   rw [HLS.out] at HC2
   obtain ⟨⟨t, er⟩, hRt⟩ : ∃ R, layoutA l = R := ⟨_, rfl⟩
   rw [hRt] at HC1 HC2
   clear hRt HLS
   go_wp2_with fail
   refine (HPL.out wr HX.out).mono ?_
   rintro e1 w7 ⟨A7, c7, rfl, hs, hx⟩
   have HC7 := hid (HC1.out w7 A7 c7 hs)
   have HX7 := hid hx
   clear hs hx
   go_wp2_with fail
   refine HC7.out.mono ?_
   rintro e w8 ⟨vw8, rfl, hv, hx⟩
   have HTw8 := hid (TyV.all (t := t) hv)
   have HXw8 := hid hx
   clear hv hx
   obtain ⟨Aw8, nw8, cw8, Bw8, mw8, ew8, hv, -⟩ := HTw8.out
   subst hv
   simp only at *
   go_upto_region 15 with fail
   obtain ⟨U8, hU8⟩ : ∃ U8, w8.alloc (.cells #[.int .i64 t.kind, .int .i64 t.size, .int .i64 t.count, .slice Aw8 nw8 cw8, .slice Bw8 mw8 ew8] 25) = U8 := ⟨_, rfl⟩
   rw [hU8]
   have HEU8 := hid (by rw [← hU8]; exact (Ext.refl w8).alloc _ : Ext w8 U8)
   have o0U8 : U8.cell? ⟨w8.heap.size, 0, none⟩ = some (.int .i64 t.kind) := by rw [← hU8]; simp [go_sem]
   have o1U8 : U8.cell? ⟨w8.heap.size, 1, none⟩ = some (.int .i64 t.size) := by rw [← hU8]; simp [go_sem]
   have o2U8 : U8.cell? ⟨w8.heap.size, 2, none⟩ = some (.int .i64 t.count) := by rw [← hU8]; simp [go_sem]
   have o3U8 : U8.cell? ⟨w8.heap.size, 3, none⟩ = some (.slice Aw8 nw8 cw8) := by rw [← hU8]; simp [go_sem]
   have o4U8 : U8.cell? ⟨w8.heap.size, 4, none⟩ = some (.slice Bw8 mw8 ew8) := by rw [← hU8]; simp [go_sem]
   have HOU8 := hid (fun W (hW : Ext U8 W) => And.intro (hW.cell o0U8) (And.intro (hW.cell o1U8) (And.intro (hW.cell o2U8) (And.intro (hW.cell o3U8) (hW.cell o4U8)))))
   clear hU8 o0U8 o1U8 o2U8 o3U8 o4U8
   have E8 := hid (HX7.out.trans (HXw8.out.trans HEU8.out))
   go_wp2_with fail
   refine (HPM.out U8 E8.out).mono ?_
   rintro e1 w9 ⟨A9, c9, rfl, hs, hx⟩
   have HC9 := hid (HC2.out w9 A9 c9 hs)
   have HX9 := hid hx
   clear hs hx
   go_wp2_with fail
   refine HC9.out.mono ?_
   rintro e w10 ⟨vw10, rfl, hv, hx⟩
   have HTw10 := hid (TyV.all (t := t) hv)
   have HXw10 := hid hx
   clear hv hx
   obtain ⟨Aw10, nw10, cw10, Bw10, mw10, ew10, hv, -⟩ := HTw10.out
   subst hv
   simp only at *
   go_upto_region 16 with fail
   obtain ⟨U10, hU10⟩ : ∃ U10, w10.alloc (.cells #[.int .i64 t.kind, .int .i64 t.size, .int .i64 t.count, .slice Aw10 nw10 cw10, .slice Bw10 mw10 ew10] 25) = U10 := ⟨_, rfl⟩
   rw [hU10]
   have HEU10 := hid (by rw [← hU10]; exact (Ext.refl w10).alloc _ : Ext w10 U10)
   have o0U10 : U10.cell? ⟨w10.heap.size, 0, none⟩ = some (.int .i64 t.kind) := by rw [← hU10]; simp [go_sem]
   have o1U10 : U10.cell? ⟨w10.heap.size, 1, none⟩ = some (.int .i64 t.size) := by rw [← hU10]; simp [go_sem]
   have o2U10 : U10.cell? ⟨w10.heap.size, 2, none⟩ = some (.int .i64 t.count) := by rw [← hU10]; simp [go_sem]
   have o3U10 : U10.cell? ⟨w10.heap.size, 3, none⟩ = some (.slice Aw10 nw10 cw10) := by rw [← hU10]; simp [go_sem]
   have o4U10 : U10.cell? ⟨w10.heap.size, 4, none⟩ = some (.slice Bw10 mw10 ew10) := by rw [← hU10]; simp [go_sem]
   have HOU10 := hid (fun W (hW : Ext U10 W) => And.intro (hW.cell o0U10) (And.intro (hW.cell o1U10) (And.intro (hW.cell o2U10) (And.intro (hW.cell o3U10) (hW.cell o4U10)))))
   clear hU10 o0U10 o1U10 o2U10 o3U10 o4U10
   have E10 := hid (HX9.out.trans (HXw10.out.trans HEU10.out))
   obtain ⟨o0, o1, o2, o3, o4⟩ := HOU8.out U10 E10.out
   obtain ⟨q0, q1, q2, q3, q4⟩ := HOU10.out U10 (Ext.refl _)
   have HC4 := hid (same31_any 4 U10 t t _ _ ((HTw8.out.ext HEU8.out).ext E10.out) (HTw10.out.ext HEU10.out))
   rw [sameT_refl] at HC4
   go_wp2_with fail
   refine HC4.out.mono ?_
   rintro e1 w11 ⟨rfl, hx⟩
   have HX11 := hid (HX.out.trans (E8.out.trans (E10.out.trans hx)))
   clear hx o0 o1 o2 o3 o4 q0 q1 q2 q3 q4
   have HXLw12 := hid (lex_any w11 (HT.out.ext HX11.out) (HG.out.ext HX11.out))
   go_wp2_with fail
   refine HXLw12.out.mono ?_
   rintro e w12 ⟨rfl, hx⟩
   have HXw12 := hid (Ext.trans HX11.out hx)
   clear hx
   go_wp2
   go_ret
   exact ⟨rfl, HXw12.out⟩
end Go.Proofs.YtacmjhcfjhpkeaaGreatDoor
