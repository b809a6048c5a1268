/- types.Array; structs: field. -/
import Derived.Test.YtacmjhcfjhpkeaaGreatDoorStam
import Derived.Test.YtacmjhcfjhpkeaaGreatDoorPlbm
namespace Go.Proofs.YtacmjhcfjhpkeaaGreatDoor
open Go.RowKit Go.Deco
set_option linter.unusedSimpArgs false
set_option linter.unusedVariables false

set_option maxRecDepth 100000 in
set_option maxHeartbeats 4000000 in
theorem tarr_any (d : Nat) (w : World) (t : Ty) (v : Value) (hv : TyV d w All v t) (hb : bnT t = true) (m : Int) (hm : i64b m) : Calls Tryz.prog 80 #[v, .int .i64 m] w (TyOut (d + 1) w (Ty.arr t m)) := by
 have HV := hid hv
 obtain ⟨A, na, ca, B, nb, cb, rfl, -⟩ := hv
 obtain ⟨W0, hW0⟩ : ∃ W0, (w.alloc (.cells #[.int .i64 t.kind, .int .i64 t.size, .int .i64 t.count, .slice A na ca, .slice B nb cb] 25)).alloc (.cells #[.int .i64 0, .int .i64 0, .int .i64 0, .slice none 0 0, .slice none 0 0] 25) = W0 := ⟨_, rfl⟩
 have hE0 : Ext w W0 := by rw [← hW0]; exact ((Ext.refl w).alloc _).alloc _
 have o0 : W0.cell? ⟨w.heap.size, 0, none⟩ = some (.int .i64 t.kind) := by rw [← hW0]; simp [go_sem]
 have o1 : W0.cell? ⟨w.heap.size, 1, none⟩ = some (.int .i64 t.size) := by rw [← hW0]; simp [go_sem]
 have o2 : W0.cell? ⟨w.heap.size, 2, none⟩ = some (.int .i64 t.count) := by rw [← hW0]; simp [go_sem]
 have o3 : W0.cell? ⟨w.heap.size, 3, none⟩ = some (.slice A na ca) := by rw [← hW0]; simp [go_sem]
 have o4 : W0.cell? ⟨w.heap.size, 4, none⟩ = some (.slice B nb cb) := by rw [← hW0]; simp [go_sem]
 have hR0 : Box5 W0 (w.heap.size + 1) (.int .i64 0) (.int .i64 0) (.int .i64 0) (.slice none 0 0) (.slice none 0 0) := by
  rw [← hW0]
  have := Box5.new (w.alloc (.cells #[.int .i64 t.kind, .int .i64 t.size, .int .i64 t.count, .slice A na ca, .slice B nb cb] 25)) (.int .i64 0) (.int .i64 0) (.int .i64 0) (.slice none 0 0) (.slice none 0 0) 25
  rwa [show (w.alloc (.cells #[.int .i64 t.kind, .int .i64 t.size, .int .i64 t.count, .slice A na ca, .slice B nb cb] 25)).heap.size = w.heap.size + 1 by simp] at this
 have HE0 := hid hE0
 have HR0 := hid hR0
 have HC := hid (own_any d W0 t _ (HV.out.ext hE0) hb)
 have HM := hid hm
 clear hE0 hR0 hm hb
 go_enter Tryz.func80, Tryz.ntmps80
 go_wp2_with fail
 refine (HC.out).mono ?_
 rintro e w1 ⟨_, rfl, ⟨A1, n1, c1, B1, m1, e1, rfl, hv1⟩, hx1⟩
 have HX1 := hid hx1
 obtain ⟨W2, hW2⟩ : ∃ W2, w1.alloc (.cells #[.int .i64 t.kind, .int .i64 t.size, .int .i64 t.count, .slice A1 n1 c1, .slice B1 m1 e1] 25) = W2 := ⟨_, rfl⟩
 have hE2 : Ext w1 W2 := by rw [← hW2]; exact (Ext.refl _).alloc _
 have hlit : Sl (tyR (d + 1)) W2 (fun b => w.heap.size + 2 ≤ b) (.slice (some ⟨w1.heap.size, 0, none⟩) 1 1) [t] := by
  have hsz : w.heap.size + 2 ≤ w1.heap.size := by have := (HR0.out.ext hx1).lt; omega
  have hrel : (tyR (d + 1)).rel w1 (fun b => W0.heap.size ≤ b) [.int .i64 t.kind, .int .i64 t.size, .int .i64 t.count, .slice A1 n1 c1, .slice B1 m1 e1] t := ty_rel.2 ⟨_, ⟨A1, n1, c1, B1, m1, e1, rfl, hv1⟩, rfl⟩
  have hs0 : w.heap.size + 2 ≤ W0.heap.size := by have := HR0.out.lt; omega
  rw [← hW2]
  have ho : OwnS (tyR (d + 1)) (w1.alloc (.cells #[.int .i64 t.kind, .int .i64 t.size, .int .i64 t.count, .slice A1 n1 c1, .slice B1 m1 e1] 25)) (w.heap.size + 2) 25 (fun b => w.heap.size + 2 ≤ b) (.slice (some ⟨w1.heap.size, 0, none⟩) 1 1) [t] := by
   have hl := World.ownsRow_lit (size := (tyR (d + 1)).size) (e := 25) w1 #[.int .i64 t.kind, .int .i64 t.size, .int .i64 t.count, .slice A1 n1 c1, .slice B1 m1 e1] 1 hsz (by simp [maxLen]) (by rw [tyR_size]; rfl)
   exact ⟨_, by simpa using hl, Chunks.single ((tyR (d + 1)).mono (fun b hb hi => ⟨by have hb' : W0.heap.size ≤ b := hb.1; omega, own_ne hb.2⟩) ((tyR (d + 1)).ext ((Ext.refl w1).alloc _) ((tyR (d + 1)).mono (S' := fun b => W0.heap.size ≤ b ∧ b < w1.heap.size) (fun b hb hi => ⟨hb, hi.lt⟩) hrel)))⟩
  exact ho.slT (fun b hb => hb) (fun b hb => (ho.block b hb).1)
 have HLIT := hid hlit
 have HX2 := hid (HE0.out.trans (hx1.trans hE2))
 obtain ⟨r0, r1, r2, r3, r4, rf⟩ := (HR0.out.ext hx1).ext hE2
 have u0 := rf 0
 have u1 := rf 1
 have u2 := rf 2
 have u3 := rf 3
 have u4 := rf 4
 clear hx1 hE2 hlit rf o0 o1 o2 o3 o4
 have hc := set5_cells r0 r1 r2 r3 r4 (.int .i64 4) (.int .i64 0) (.int .i64 m) (.slice (some ⟨w1.heap.size, 0, none⟩) 1 1) (.slice none 0 0)
 have hh := fun {k : Nat} (hk : k ≠ w.heap.size + 1) => set5_heap W2 (w.heap.size + 1) (.int .i64 4) (.int .i64 0) (.int .i64 m) (.slice (some ⟨w1.heap.size, 0, none⟩) 1 1) (.slice none 0 0) hk
 have hx := set5_ext HX2.out (b := w.heap.size + 1) (by omega) (.int .i64 4) (.int .i64 0) (.int .i64 m) (.slice (some ⟨w1.heap.size, 0, none⟩) 1 1) (.slice none 0 0)
 obtain ⟨W3, hW3⟩ : ∃ W3, ((((W2.setCell ⟨w.heap.size + 1, 0, none⟩ (.int .i64 4)).setCell ⟨w.heap.size + 1, 1, none⟩ (.int .i64 0)).setCell ⟨w.heap.size + 1, 2, none⟩ (.int .i64 m)).setCell ⟨w.heap.size + 1, 3, none⟩ (.slice (some ⟨w1.heap.size, 0, none⟩) 1 1)).setCell ⟨w.heap.size + 1, 4, none⟩ (.slice none 0 0) = W3 := ⟨_, rfl⟩
 rw [hW3] at hc hx
 have HH : Hid (∀ k, k ≠ w.heap.size + 1 → W3.heap[k]? = W2.heap[k]?) := hid (fun k hk => by rw [← hW3]; exact hh hk)
 obtain ⟨t0, t1, t2, t3, t4⟩ := hc
 have HX3 := hid hx
 have HW3 := hid hW3
 clear hx hW3 hh
 go_wp2
 rw [HW3.out]
 clear hW2 hW0 r0 r1 r2 r3 r4
 refine bodyPost_ret (v := .agg #[.int .i64 4, .int .i64 0, .int .i64 m, .slice (some ⟨w1.heap.size, 0, none⟩) 1 1, .slice none 0 0]) (by simp [results, Tryz.results80, go_sem, t0, t1, t2, t3, t4]) rfl ?_
 refine ⟨_, rfl, ⟨some ⟨w1.heap.size, 0, none⟩, 1, 1, none, 0, 0, rfl, ?_, Sl.nil, by show i64b 4; unfold i64b; omega, by show i64b 0; unfold i64b; omega, HM.out⟩, HX3.out⟩
 exact (HLIT.out.keep (fun b hb _ => HH.out b (by have hb' : w.heap.size + 2 ≤ b := hb; omega))).mono fun b hb _ => by have hb' : w.heap.size + 2 ≤ b := hb; show w.heap.size ≤ b; omega

def FieldIs (d : Nat) (w : World) (S0 : Nat → Prop) (f : Int × Ty) (b : Bool) (e : Ending) (w' : World) : Prop := ∃ v, e = .returned (.tuple #[v, .bool b]) ∧ FdV d w' (fun b => S0 b ∨ w.heap.size ≤ b) v f ∧ Ext w w'
theorem lastF_snoc (g : List (Int × Ty)) (x : Int × Ty) : lastF (g ++ [x]) = max (lastF g) (endF x) := by simp [lastF]
def sameP (y x : Int × Ty) : Bool := decide (x.1 = y.1) && sameT x.2 y.2
def sizedP (y x : Int × Ty) : Bool := decide (x.1 = y.1) && intK x.2 && decide (x.2.size = y.2.size)
theorem fieldG_eq {g : List (Int × Ty)} {y : Int × Ty} (hy : g[0]? = some y) : fieldG g = if g.all (sameP y) then (y, false) else if intK y.2 && g.all (sizedP y) then ((y.1, Ty.int y.2.size), false) else ((y.1, Ty.arr (Ty.uint 1) (lastF g - y.1)), true) := by
 have hh : headF g = y := by
  cases g with
  | nil => cases hy
  | cons a g => simpa [headF] using hy
 unfold fieldG sameG sizedG
 rw [hh]
 rfl
theorem all_snocT {E : Type} {p : E → Bool} {l : List E} {k : Nat} {x : E} (hx : l[k]? = some x) : (l.take (k + 1)).all p = ((l.take k).all p && p x) := by
 rw [take_snoc' hx, List.all_append]; simp
set_option maxRecDepth 100000 in
set_option maxHeartbeats 8000000 in
theorem field_any (d : Nat) (w : World) (S0 : Nat → Prop) (A : Option Addr) (n c : Nat) (g : List (Int × Ty)) (hl : Sl (fdR (tyR d)) w S0 (.slice A n c) g) (hn0 : 0 < n) (hn : n ≤ 100000) (hoff : ∀ f ∈ g, 0 ≤ f.1 ∧ f.1 ≤ 131072) :
  Calls Tryz.prog 42 #[.slice A n c] w (FieldIs (d + 1) w S0 (fieldG g).1 (fieldG g).2) := by
 have hln := hl.len
 obtain ⟨hnc, hcm⟩ := hl.cap
 obtain ⟨y, hy⟩ : ∃ y, g[0]? = some y := ⟨_, List.getElem?_eq_getElem (by omega)⟩
 obtain ⟨d', b, off, A1, n1, c1, B1, m1, e1, hd, rfl, hv1, hi1, y0, y1, y2, y3, y4, y5⟩ := hl.fd_at hy
 rw [Nat.zero_mul, Nat.add_zero] at y0 y1 y2 y3 y4 y5
 have hfg := fieldG_eq hy
 obtain ⟨F, hF⟩ : ∃ F, fieldG g = F := ⟨_, rfl⟩
 rw [hF] at hfg ⊢
 have HFG := hid hfg
 have hyo := hoff y (List.mem_of_getElem? hy)
 have HLN := hid hln
 have HL := hid hl
 have HOFF := hid hoff
 have HY := hid hy
 have HD := hid hd
 have HV := hid hv1
 have HI := hid hi1
 obtain ⟨yo, yt⟩ := y
 simp only at y0 y1 y2 y3 y4 y5 hyo HV HI HFG
 obtain ⟨W0, hW0⟩ : ∃ W0, w.alloc (.cells #[.int .i64 0, .int .i64 0, .int .i64 0, .int .i64 0, .slice none 0 0, .slice none 0 0] 48) = W0 := ⟨_, rfl⟩
 have hE0 : Ext w W0 := by rw [← hW0]; exact (Ext.refl w).alloc _
 have hs0 : W0.heap.size = w.heap.size + 1 := by rw [← hW0]; simp
 have y0 := hE0.cell y0
 have y1 := hE0.cell y1
 have y2 := hE0.cell y2
 have y3 := hE0.cell y3
 have y4 := hE0.cell y4
 have y5 := hE0.cell y5
 obtain ⟨W1, hW1⟩ : ∃ W1, W0.alloc (.cells #[.int .i64 yo, .int .i64 yt.kind, .int .i64 yt.size, .int .i64 yt.count, .slice A1 n1 c1, .slice B1 m1 e1] 48) = W1 := ⟨_, rfl⟩
 have hE1 : Ext W0 W1 := by rw [← hW1]; exact (Ext.refl _).alloc _
 have p0 : W1.cell? ⟨W0.heap.size, 0, none⟩ = some (.int .i64 yo) := by rw [← hW1]; simp [go_sem]
 have p1 : W1.cell? ⟨W0.heap.size, 1, none⟩ = some (.int .i64 yt.kind) := by rw [← hW1]; simp [go_sem]
 have p2 : W1.cell? ⟨W0.heap.size, 2, none⟩ = some (.int .i64 yt.size) := by rw [← hW1]; simp [go_sem]
 have p3 : W1.cell? ⟨W0.heap.size, 3, none⟩ = some (.int .i64 yt.count) := by rw [← hW1]; simp [go_sem]
 have p4 : W1.cell? ⟨W0.heap.size, 4, none⟩ = some (.slice A1 n1 c1) := by rw [← hW1]; simp [go_sem]
 have p5 : W1.cell? ⟨W0.heap.size, 5, none⟩ = some (.slice B1 m1 e1) := by rw [← hW1]; simp [go_sem]
 have HP : Hid (W1.cell? ⟨W0.heap.size, 0, none⟩ = some (.int .i64 yo) ∧ W1.cell? ⟨W0.heap.size, 1, none⟩ = some (.int .i64 yt.kind) ∧ W1.cell? ⟨W0.heap.size, 2, none⟩ = some (.int .i64 yt.size) ∧ W1.cell? ⟨W0.heap.size, 3, none⟩ = some (.int .i64 yt.count) ∧ W1.cell? ⟨W0.heap.size, 4, none⟩ = some (.slice A1 n1 c1) ∧ W1.cell? ⟨W0.heap.size, 5, none⟩ = some (.slice B1 m1 e1)) := hid ⟨p0, p1, p2, p3, p4, p5⟩
 have HR : Hid ((W1.cell? ⟨w.heap.size, 0, none⟩ = some (.int .i64 0) ∧ W1.cell? ⟨w.heap.size, 1, none⟩ = some (.int .i64 0) ∧ W1.cell? ⟨w.heap.size, 2, none⟩ = some (.int .i64 0) ∧ W1.cell? ⟨w.heap.size, 3, none⟩ = some (.int .i64 0) ∧ W1.cell? ⟨w.heap.size, 4, none⟩ = some (.slice none 0 0) ∧ W1.cell? ⟨w.heap.size, 5, none⟩ = some (.slice none 0 0)) ∧ ∀ i, W1.frozen? ⟨w.heap.size, i, none⟩ = false) := hid (by
  refine ⟨⟨hE1.cell ?_, hE1.cell ?_, hE1.cell ?_, hE1.cell ?_, hE1.cell ?_, hE1.cell ?_⟩, fun i => (hE1.frozen (p := ⟨w.heap.size, i, none⟩) (by show w.heap.size < W0.heap.size; omega)).trans ?_⟩
  all_goals rw [← hW0]; simp [go_sem])
 have HS0 := hid hs0
 have HE01 := hid (hE0.trans hE1)
 have HC1 := hid (integer_any d' W1 yt _ ((hv1.ext (hE0.trans hE1)).all))
 obtain ⟨q, hq⟩ : ∃ q, intK yt = q := ⟨_, rfl⟩
 rw [hq] at HC1
 have HQ := hid hq
 clear hln hl hoff hy hd hv1 hi1 hfg hF hq hE0 hE1 hs0
 unfold FieldIs
 go_enter Tryz.func42, Tryz.ntmps42
 go_wp2_with fail
 refine (HC1.out).mono ?_
 rintro e w2 ⟨rfl, hx2⟩
 have HX2 := hid hx2
 clear hx2 hW0 hW1 p0 p1 p2 p3 p4 p5 y0 y1 y2 y3 y4 y5
 go_wp2
 go_loopw [18, 5, 6, 7] (fun i s5 s6 s7 wr => ∃ (k : Nat) (sm sz : Bool) (last : Int), k ≤ n ∧ 0 ≤ last ∧ last ≤ 262144 ∧ i = .int .i64 k ∧ s5 = .bool sm ∧ s6 = .bool sz ∧ s7 = .int .i64 last ∧
  Hid ((g.take k).all (sameP (yo, yt)) = sm ∧ (q && (g.take k).all (sizedP (yo, yt))) = sz ∧ lastF (g.take k) = last) ∧ Hid (Ext W1 wr)) (fun i _ _ _ _ => n - (intOf i).toNat)
 case atStart => exact ⟨0, true, q, 0, by omega, by omega, by omega, rfl, rfl, rfl, rfl, hid ⟨rfl, by simp, rfl⟩, HX2⟩
 case round =>
  obtain ⟨k, sm, sz, last, hk, hl0, hl1, rfl, rfl, rfl, rfl, HIN, HX⟩ := hrel
  by_cases h1 : k < n
  ·obtain ⟨x, hx⟩ : ∃ x, g[k]? = some x := ⟨_, List.getElem?_eq_getElem (by have := HLN.out; omega)⟩
   obtain ⟨d2, b', off', A2, n2, c2, B2, m2, e2, hd2, hbo, hv2, hi2, x0, x1, x2, x3, x4, x5⟩ := (HL.out.ext (HE01.out.trans HX.out)).fd_at hx
   obtain ⟨rfl, rfl⟩ : b = b' ∧ off = off' := by simpa using hbo
   obtain rfl : d' = d2 := by have := HD.out; omega
   have hxo := HOFF.out x (List.mem_of_getElem? hx)
   have HS := hid (all_snocT (p := sameP (yo, yt)) hx)
   have HZ := hid (all_snocT (p := sizedP (yo, yt)) hx)
   have HLS : Hid (lastF (g.take (k + 1)) = max (lastF (g.take k)) (endF x)) := hid (by rw [take_snoc' hx, lastF_snoc])
   have HFD := hid (fun (w' : World) (hw : Ext wr w') => (FdV.ext ⟨A2, n2, c2, B2, m2, e2, rfl, hi2, hv2.all⟩ hw : FdV d' w' All (.agg #[.int .i64 x.1, .int .i64 x.2.kind, .int .i64 x.2.size, .int .i64 x.2.count, .slice A2 n2 c2, .slice B2 m2 e2]) x))
   have HTV := hid (fun (w' : World) (hw : Ext wr w') => (hv2.ext hw).all)
   have HEC := hid (fun (w' : World) (hw : Ext wr w') => end_any d' w' x _ (HFD.out w' hw) hxo.1 hxo.2)
   have hen0 := endF_ge x
   have hen1 : endF x ≤ 262144 := by have := sizeT_le x.2; unfold endF; omega
   obtain ⟨en, hen⟩ : ∃ en, endF x = en := ⟨_, rfl⟩
   rw [hen] at HEC hen0 hen1 HLS
   have hen2 : 0 ≤ en := by omega
   obtain ⟨xo, xt⟩ := x
   simp only at x0 x1 x2 x3 x4 x5 HTV HFD HEC
   obtain ⟨W2, hW2⟩ : ∃ W2, wr.alloc (.cells #[.int .i64 xo, .int .i64 xt.kind, .int .i64 xt.size, .int .i64 xt.count, .slice A2 n2 c2, .slice B2 m2 e2] 48) = W2 := ⟨_, rfl⟩
   have hE2 : Ext wr W2 := by rw [← hW2]; exact (Ext.refl _).alloc _
   have q0 : W2.cell? ⟨wr.heap.size, 0, none⟩ = some (.int .i64 xo) := by rw [← hW2]; simp [go_sem]
   have q1 : W2.cell? ⟨wr.heap.size, 1, none⟩ = some (.int .i64 xt.kind) := by rw [← hW2]; simp [go_sem]
   have q2 : W2.cell? ⟨wr.heap.size, 2, none⟩ = some (.int .i64 xt.size) := by rw [← hW2]; simp [go_sem]
   have q3 : W2.cell? ⟨wr.heap.size, 3, none⟩ = some (.int .i64 xt.count) := by rw [← hW2]; simp [go_sem]
   have q4 : W2.cell? ⟨wr.heap.size, 4, none⟩ = some (.slice A2 n2 c2) := by rw [← hW2]; simp [go_sem]
   have q5 : W2.cell? ⟨wr.heap.size, 5, none⟩ = some (.slice B2 m2 e2) := by rw [← hW2]; simp [go_sem]
   have HE2 := hid hE2
   clear hbo hd2 hv2 hi2 hx hxo hen hen0 hE2
   go_upto_region 7 with fail
   clear hW2 x0 x1 x2 x3 x4 x5
   go_cut [7] from 22 to 25 (fun s7 wx => s7 = .int .i64 (max last en) ∧ Hid (Ext W2 wx))
   case first =>
    go_wp2_with fail
    refine (HEC.out _ HE2.out).mono ?_
    rintro e w5 ⟨rfl, hx5⟩
    have HX5 := hid hx5
    clear hx5
    go_wp2
    all_goals
     go_meet
     exact ⟨by congr 1; omega, HX5⟩
   case rest =>
    obtain ⟨rfl, HXC⟩ := hcut
    obtain ⟨V, hV⟩ : ∃ V, V = wc := ⟨_, rfl⟩
    obtain rfl := hV
    have q0 := HXC.out.cell q0
    have q1 := HXC.out.cell q1
    have q2 := HXC.out.cell q2
    have q3 := HXC.out.cell q3
    have q4 := HXC.out.cell q4
    have q5 := HXC.out.cell q5
    have HXV := hid (HX.out.trans (HE2.out.trans HXC.out))
    have p0 := HXV.out.cell HP.out.1
    have p1 := HXV.out.cell HP.out.2.1
    have p2 := HXV.out.cell HP.out.2.2.1
    have p3 := HXV.out.cell HP.out.2.2.2.1
    have p4 := HXV.out.cell HP.out.2.2.2.2.1
    have p5 := HXV.out.cell HP.out.2.2.2.2.2
    obtain ⟨sm', hsm⟩ : ∃ s, (sm && sameP (yo, yt) (xo, xt)) = s := ⟨_, rfl⟩
    obtain ⟨sz', hsz⟩ : ∃ s, (sz && sizedP (yo, yt) (xo, xt)) = s := ⟨_, rfl⟩
    have HSM := hid hsm
    have HSZ := hid hsz
    clear hsm hsz
    go_upto_region 8 with fail
    go_cut [5] from 26 to 40 (fun s5 wx => s5 = .bool sm' ∧ Hid (Ext V wx))
    case first =>
     cases sm with
     | false =>
      obtain rfl : sm' = false := HSM.out.symm
      go_wp2
      go_meet
      exact ⟨rfl, hid (Ext.refl _)⟩
     | true =>
      by_cases ho : xo = yo
      ·obtain ⟨r, hr⟩ : ∃ r, sameT xt yt = r := ⟨_, rfl⟩
       have hs : sm' = r := by rw [← HSM.out]; simp [sameP, ho, hr]
       have HC := hid (same_any d' V xt yt _ _ (HTV.out _ (HE2.out.trans HXC.out)) (HV.out.ext (HE01.out.trans HXV.out)).all)
       rw [hr, ← hs] at HC
       clear hs hr
       subst ho
       go_wp2_with fail
       refine (HC.out).mono ?_
       rintro e w5 ⟨rfl, hx5⟩
       have HX5 := hid hx5
       clear hx5
       go_wp2
       go_meet
       exact ⟨rfl, HX5⟩
      ·have g1 : (xo == yo) = false := by simp [ho]
       obtain rfl : sm' = false := by rw [← HSM.out]; simp [sameP, ho]
       clear ho
       go_wp2
       go_meet
       exact ⟨rfl, hid (Ext.refl _)⟩
    case rest =>
     obtain ⟨rfl, HXD⟩ := hcut
     obtain ⟨U, hU⟩ : ∃ U, U = wc := ⟨_, rfl⟩
     obtain rfl := hU
     have q0 := HXD.out.cell q0
     have q1 := HXD.out.cell q1
     have q2 := HXD.out.cell q2
     have q3 := HXD.out.cell q3
     have q4 := HXD.out.cell q4
     have q5 := HXD.out.cell q5
     have p0 := HXD.out.cell p0
     have p1 := HXD.out.cell p1
     have p2 := HXD.out.cell p2
     have p3 := HXD.out.cell p3
     have p4 := HXD.out.cell p4
     have p5 := HXD.out.cell p5
     have HXU := hid (HXV.out.trans HXD.out)
     have HNX : Hid ((g.take (k + 1)).all (sameP (yo, yt)) = sm' ∧ (q && (g.take (k + 1)).all (sizedP (yo, yt))) = sz' ∧ lastF (g.take (k + 1)) = max last en) := hid ⟨by rw [HS.out, HIN.out.1]; exact HSM.out, by rw [HZ.out, ← Bool.and_assoc, HIN.out.2.1]; exact HSZ.out, by rw [HLS.out, HIN.out.2.2]⟩
     cases sz with
     | false =>
      obtain rfl : sz' = false := HSZ.out.symm
      clear p0 p1 p2 p3 p4 p5 q0 q1 q2 q3 q4 q5
      go_wp2
      first
       | go_roundw
       | refine ⟨?rel, ?measure⟩
      case rel =>
       first
        | exact ⟨k + 1, sm', _, max last en, by omega, by omega, by omega, by go_num, rfl, rfl, rfl, HNX, HXU⟩
        | ((repeat apply Exists.intro); exact ⟨⟨k + 1, sm', _, max last en, by omega, by omega, by omega, by go_num, rfl, rfl, rfl, HNX, HXU⟩, rfl⟩)
      case measure => simp [intOf]; omega
     | true =>
      by_cases ho : xo = yo
      ·obtain ⟨r, hr⟩ : ∃ r, intK xt = r := ⟨_, rfl⟩
       have HC := hid (integer_any d' U xt _ (HTV.out _ ((HE2.out.trans HXC.out).trans HXD.out)))
       rw [hr] at HC
       have hs : sz' = (r && decide (xt.size = yt.size)) := by rw [← HSZ.out]; simp [sizedP, ho, hr]
       have HSS := hid hs
       clear hr hs
       subst ho
       go_wp2_with fail
       refine (HC.out).mono ?_
       rintro e w5 ⟨rfl, hx5⟩
       have HX5 := hid (HXU.out.trans hx5)
       have q2 := hx5.cell q2
       have p2 := hx5.cell p2
       clear hx5 p0 p1 p3 p4 p5 q0 q1 q3 q4 q5
       cases r with
       | false =>
        obtain rfl : sz' = false := by rw [HSS.out]; rfl
        go_wp2
        first
         | go_roundw
         | refine ⟨?rel, ?measure⟩
        case rel =>
         first
          | exact ⟨k + 1, sm', _, max last en, by omega, by omega, by omega, by go_num, rfl, rfl, rfl, HNX, HX5⟩
          | ((repeat apply Exists.intro); exact ⟨⟨k + 1, sm', _, max last en, by omega, by omega, by omega, by go_num, rfl, rfl, rfl, HNX, HX5⟩, rfl⟩)
        case measure => simp [intOf]; omega
       | true =>
        by_cases hz : xt.size = yt.size
        ·obtain rfl : sz' = true := by rw [HSS.out]; simp [hz]
         have g1 : (xt.size == yt.size) = true := by simp [hz]
         clear hz
         go_wp2
         first
          | go_roundw
          | refine ⟨?rel, ?measure⟩
         case rel =>
          first
           | exact ⟨k + 1, sm', _, max last en, by omega, by omega, by omega, by go_num, rfl, rfl, rfl, HNX, HX5⟩
           | ((repeat apply Exists.intro); exact ⟨⟨k + 1, sm', _, max last en, by omega, by omega, by omega, by go_num, rfl, rfl, rfl, HNX, HX5⟩, rfl⟩)
         case measure => simp [intOf]; omega
        ·obtain rfl : sz' = false := by rw [HSS.out]; simp [hz]
         have g1 : (xt.size == yt.size) = false := by simp [hz]
         clear hz
         go_wp2
         first
          | go_roundw
          | refine ⟨?rel, ?measure⟩
         case rel =>
          first
           | exact ⟨k + 1, sm', _, max last en, by omega, by omega, by omega, by go_num, rfl, rfl, rfl, HNX, HX5⟩
           | ((repeat apply Exists.intro); exact ⟨⟨k + 1, sm', _, max last en, by omega, by omega, by omega, by go_num, rfl, rfl, rfl, HNX, HX5⟩, rfl⟩)
         case measure => simp [intOf]; omega
      ·have g1 : (xo == yo) = false := by simp [ho]
       obtain rfl : sz' = false := by rw [← HSZ.out]; simp [sizedP, ho]
       clear ho
       go_wp2
       first
        | go_roundw
        | refine ⟨?rel, ?measure⟩
       case rel =>
        first
         | exact ⟨k + 1, sm', _, max last en, by omega, by omega, by omega, by go_num, rfl, rfl, rfl, HNX, HXU⟩
         | ((repeat apply Exists.intro); exact ⟨⟨k + 1, sm', _, max last en, by omega, by omega, by omega, by go_num, rfl, rfl, rfl, HNX, HXU⟩, rfl⟩)
       case measure => simp [intOf]; omega
  ·obtain rfl : k = n := by omega
   have hin := HIN.out
   rw [List.take_of_length_le (by have := HLN.out; omega)] at hin
   have HIN2 := hid hin
   obtain ⟨V, hV⟩ : ∃ V, V = wr := ⟨_, rfl⟩
   obtain rfl := hV
   have HXV := hid (HE01.out.trans HX.out)
   have p0 := HX.out.cell HP.out.1
   have p1 := HX.out.cell HP.out.2.1
   have p2 := HX.out.cell HP.out.2.2.1
   have p3 := HX.out.cell HP.out.2.2.2.1
   have p4 := HX.out.cell HP.out.2.2.2.2.1
   have p5 := HX.out.cell HP.out.2.2.2.2.2
   have HFZ : Hid (∀ (W : World), Ext W1 W → ∀ i, W.frozen? ⟨w.heap.size, i, none⟩ = false) := hid (fun W hW i => (hW.frozen (p := ⟨w.heap.size, i, none⟩) (show w.heap.size < W1.heap.size from World.block_lt_of_cell? W1 ⟨w.heap.size, 0, none⟩ HR.out.1.1)).trans (HR.out.2 i))
   have hne1 : w.heap.size ≠ W0.heap.size := by have := HS0.out; omega
   have hne2 : W0.heap.size ≠ w.heap.size := by have := HS0.out; omega
   have HBY : Hid (i64b yo ∧ 0 ≤ yo ∧ yo ≤ 131072) := hid ⟨HI.out, hyo.1, hyo.2⟩
   clear hin HIN hyo
   cases sm with
   | true =>
    have HF : Hid (F = ((yo, yt), false)) := hid (by rw [HFG.out, HIN2.out.1]; rfl)
    have r0 := HX.out.cell HR.out.1.1
    have r1 := HX.out.cell HR.out.1.2.1
    have r2 := HX.out.cell HR.out.1.2.2.1
    have r3 := HX.out.cell HR.out.1.2.2.2.1
    have r4 := HX.out.cell HR.out.1.2.2.2.2.1
    have r5 := HX.out.cell HR.out.1.2.2.2.2.2
    have f0 := HFZ.out _ HX.out 0
    have f1 := HFZ.out _ HX.out 1
    have f2 := HFZ.out _ HX.out 2
    have f3 := HFZ.out _ HX.out 3
    have f4 := HFZ.out _ HX.out 4
    have f5 := HFZ.out _ HX.out 5
    have hc := set6_cells r0 r1 r2 r3 r4 r5 (.int .i64 yo) (.int .i64 yt.kind) (.int .i64 yt.size) (.int .i64 yt.count) (.slice A1 n1 c1) (.slice B1 m1 e1)
    have hx := set6_ext HXV.out (Nat.le_refl _) (.int .i64 yo) (.int .i64 yt.kind) (.int .i64 yt.size) (.int .i64 yt.count) (.slice A1 n1 c1) (.slice B1 m1 e1)
    obtain ⟨W6, hW6⟩ : ∃ W6, (((((V.setCell ⟨w.heap.size, 0, none⟩ (.int .i64 yo)).setCell ⟨w.heap.size, 1, none⟩ (.int .i64 yt.kind)).setCell ⟨w.heap.size, 2, none⟩ (.int .i64 yt.size)).setCell ⟨w.heap.size, 3, none⟩ (.int .i64 yt.count)).setCell ⟨w.heap.size, 4, none⟩ (.slice A1 n1 c1)).setCell ⟨w.heap.size, 5, none⟩ (.slice B1 m1 e1) = W6 := ⟨_, rfl⟩
    rw [hW6] at hc hx
    obtain ⟨t0, t1, t2, t3, t4, t5⟩ := hc
    have HX6 := hid hx
    have HW6 := hid hW6
    clear hx hW6
    go_wp2
    rw [HW6.out]
    clear p0 p1 p2 p3 p4 p5 r0 r1 r2 r3 r4 r5
    refine bodyPost_ret (v := .tuple #[.agg #[.int .i64 yo, .int .i64 yt.kind, .int .i64 yt.size, .int .i64 yt.count, .slice A1 n1 c1, .slice B1 m1 e1], .bool false]) (by simp [results, Tryz.results42, go_sem, t0, t1, t2, t3, t4, t5]) rfl ?_
    refine ⟨_, by rw [HF.out], ?_, HX6.out⟩
    rw [HF.out]
    exact FdV.mono (fun b hb _ => .inl hb) (FdV.up (by have := HD.out; omega) ⟨A1, n1, c1, B1, m1, e1, rfl, HBY.out.1, HV.out.ext HX6.out⟩)
   | false =>
    cases sz with
    | true =>
     have HF : Hid (F = ((yo, Ty.int yt.size), false)) := hid (by rw [HFG.out, HIN2.out.1, if_neg (by simp), show (intK yt && g.all (sizedP (yo, yt))) = true by rw [HQ.out]; exact HIN2.out.2.1, if_pos rfl])
     go_wp2_with fail
     refine wp_region_held_drew (S := (fun w' => w'.cell? ⟨W0.heap.size, 0, none⟩ = some (.int .i64 yo) ∧ w'.cell? ⟨W0.heap.size, 2, none⟩ = some (.int .i64 yt.size))) (by kernel_rfl) ⟨p0, p2⟩ (fun hSg34q0 => ?_)
     refine rgT4 0 1 2 3 ?_
     refine rgT 4 ?_
     refine rgC 5 (fun K hK => ?_)
     go_simp
     go_at_call 77
     refine (tint_any _ yt.size).mono ?_
     rintro e w5 ⟨rfl, hx5⟩
     have HX5 := hid (HX.out.trans hx5.drew_left)
     have HXW := hid (HXV.out.trans hx5.drew_left)
     have p0 := hx5.drew_left.cell p0
     have p2 := hx5.drew_left.cell p2
     clear hx5
     have r0 := HX5.out.cell HR.out.1.1
     have r1 := HX5.out.cell HR.out.1.2.1
     have r2 := HX5.out.cell HR.out.1.2.2.1
     have r3 := HX5.out.cell HR.out.1.2.2.2.1
     have r4 := HX5.out.cell HR.out.1.2.2.2.2.1
     have r5 := HX5.out.cell HR.out.1.2.2.2.2.2
     have f0 := HFZ.out _ HX5.out 0
     have f1 := HFZ.out _ HX5.out 1
     have f2 := HFZ.out _ HX5.out 2
     have f3 := HFZ.out _ HX5.out 3
     have f4 := HFZ.out _ HX5.out 4
     have f5 := HFZ.out _ HX5.out 5
     have hc := set6_cells r0 r1 r2 r3 r4 r5 (.int .i64 yo) (.int .i64 1) (.int .i64 yt.size) (.int .i64 0) (.slice none 0 0) (.slice none 0 0)
     have hx := set6_ext HXW.out (Nat.le_refl _) (.int .i64 yo) (.int .i64 1) (.int .i64 yt.size) (.int .i64 0) (.slice none 0 0) (.slice none 0 0)
     obtain ⟨W6, hW6⟩ : ∃ W6, (((((w5.setCell ⟨w.heap.size, 0, none⟩ (.int .i64 yo)).setCell ⟨w.heap.size, 1, none⟩ (.int .i64 1)).setCell ⟨w.heap.size, 2, none⟩ (.int .i64 yt.size)).setCell ⟨w.heap.size, 3, none⟩ (.int .i64 0)).setCell ⟨w.heap.size, 4, none⟩ (.slice none 0 0)).setCell ⟨w.heap.size, 5, none⟩ (.slice none 0 0) = W6 := ⟨_, rfl⟩
     rw [hW6] at hc hx
     obtain ⟨t0, t1, t2, t3, t4, t5⟩ := hc
     have HX6 := hid hx
     have HW6 := hid hW6
     clear hx hW6
     refine rgK hK ⟨p0, p2⟩ (fun hSg34q1 => ?_)
     clear hK K
     refine rgT 6 ?_
     refine rgC 7 (fun K hK => ?_)
     go_simp
     refine rgK hK ⟨set6_far _ _ _ _ _ _ (by exact hne2) p0, set6_far _ _ _ _ _ _ (by exact hne2) p2⟩ (fun hSg34q2 => ?_)
     clear hK K
     refine rgT 8 ?_
     refine wpAnyH_done (by kernel_rfl) ?_ _
     go_wp2
     rw [HW6.out]
     clear p0 p2 r0 r1 r2 r3 r4 r5
     refine bodyPost_ret (v := .tuple #[.agg #[.int .i64 yo, .int .i64 1, .int .i64 yt.size, .int .i64 0, .slice none 0 0, .slice none 0 0], .bool false]) (by simp [results, Tryz.results42, go_sem, t0, t1, t2, t3, t4, t5]) rfl ?_
     refine ⟨_, by rw [HF.out], ?_, HX6.out⟩
     rw [HF.out]
     obtain ⟨_, _, _, _, _, _, _, _, _, -, hsb, -⟩ := HV.out
     exact ⟨none, 0, 0, none, 0, 0, rfl, HBY.out.1, tyV_leaf _ _ _ 1 yt.size (by unfold i64b; omega) hsb⟩
    | false =>
     have HF : Hid (F = ((yo, Ty.arr (Ty.uint 1) (last - yo)), true)) := hid (by rw [HFG.out, HIN2.out.1, if_neg (by simp), show (intK yt && g.all (sizedP (yo, yt))) = false by rw [HQ.out]; exact HIN2.out.2.1, if_neg (by simp), HIN2.out.2.2])
     have w1 : IntKind.i64.wrap (last - yo) = last - yo := IntWalk.i64_in _ (by have := HBY.out; omega)
     go_wp2_with fail
     refine wp_region_held_drew (S := (fun w' => w'.cell? ⟨W0.heap.size, 0, none⟩ = some (.int .i64 yo))) (by kernel_rfl) p0 (fun hSg35q0 => ?_)
     refine rgT6 0 1 3 4 5 6 ?_
     refine rgC 2 (fun K hK => ?_)
     go_simp
     go_at_call 78
     refine (tuint_any _ 1).mono ?_
     rintro e w4 ⟨rfl, hx4⟩
     have HX4 := hid hx4.drew_left
     have p0 := hx4.drew_left.cell p0
     clear hx4
     refine rgK hK p0 (fun hSg35q1 => ?_)
     clear hK K
     refine rgC 7 (fun K hK => ?_)
     go_simp
     go_at_call 80
     refine (tarr_any d' w4 (Ty.uint 1) _ (tyV_leaf d' w4 All 2 1 (by unfold i64b; omega) (by unfold i64b; omega)) (by decide) (last - yo) (by have := HBY.out; unfold i64b; omega)).mono ?_
     rintro e w5 ⟨_, rfl, ⟨A7, n7, c7, B7, m7, e7, rfl, hv7⟩, hx5⟩
     have hv7' : TyV (d' + 1) w5 (fun b => w4.heap.size ≤ b) (.agg #[.int .i64 4, .int .i64 0, .int .i64 (last - yo), .slice A7 n7 c7, .slice B7 m7 e7]) (Ty.arr (Ty.uint 1) (last - yo)) := ⟨A7, n7, c7, B7, m7, e7, rfl, hv7⟩
     have HV7 := hid hv7'
     clear hv7'
     have HX5 := hid (HX.out.trans (HX4.out.trans hx5))
     have HXW := hid (HXV.out.trans (HX4.out.trans hx5))
     have p0 := hx5.cell p0
     clear hx5 hv7
     have r0 := HX5.out.cell HR.out.1.1
     have r1 := HX5.out.cell HR.out.1.2.1
     have r2 := HX5.out.cell HR.out.1.2.2.1
     have r3 := HX5.out.cell HR.out.1.2.2.2.1
     have r4 := HX5.out.cell HR.out.1.2.2.2.2.1
     have r5 := HX5.out.cell HR.out.1.2.2.2.2.2
     have f0 := HFZ.out _ HX5.out 0
     have f1 := HFZ.out _ HX5.out 1
     have f2 := HFZ.out _ HX5.out 2
     have f3 := HFZ.out _ HX5.out 3
     have f4 := HFZ.out _ HX5.out 4
     have f5 := HFZ.out _ HX5.out 5
     have hc := set6_cells r0 r1 r2 r3 r4 r5 (.int .i64 yo) (.int .i64 (Ty.arr (Ty.uint 1) (last - yo)).kind) (.int .i64 (Ty.arr (Ty.uint 1) (last - yo)).size) (.int .i64 (Ty.arr (Ty.uint 1) (last - yo)).count) (.slice A7 n7 c7) (.slice B7 m7 e7)
     have hx := set6_ext HXW.out (Nat.le_refl _) (.int .i64 yo) (.int .i64 (Ty.arr (Ty.uint 1) (last - yo)).kind) (.int .i64 (Ty.arr (Ty.uint 1) (last - yo)).size) (.int .i64 (Ty.arr (Ty.uint 1) (last - yo)).count) (.slice A7 n7 c7) (.slice B7 m7 e7)
     obtain ⟨W6, hW6⟩ : ∃ W6, (((((w5.setCell ⟨w.heap.size, 0, none⟩ (.int .i64 yo)).setCell ⟨w.heap.size, 1, none⟩ (.int .i64 (Ty.arr (Ty.uint 1) (last - yo)).kind)).setCell ⟨w.heap.size, 2, none⟩ (.int .i64 (Ty.arr (Ty.uint 1) (last - yo)).size)).setCell ⟨w.heap.size, 3, none⟩ (.int .i64 (Ty.arr (Ty.uint 1) (last - yo)).count)).setCell ⟨w.heap.size, 4, none⟩ (.slice A7 n7 c7)).setCell ⟨w.heap.size, 5, none⟩ (.slice B7 m7 e7) = W6 := ⟨_, rfl⟩
     rw [hW6] at hc hx
     obtain ⟨t0, t1, t2, t3, t4, t5⟩ := hc
     have HX6 := hid hx
     have HW6 := hid hW6
     clear hx hW6
     refine rgK hK p0 (fun hSg35q2 => ?_)
     clear hK K
     refine rgT 8 ?_
     refine rgC 9 (fun K hK => ?_)
     go_simp
     refine rgK hK (set6_far _ _ _ _ _ _ (by exact hne2) p0) (fun hSg35q3 => ?_)
     clear hK K
     refine rgT 10 ?_
     refine wpAnyH_done (by kernel_rfl) ?_ _
     clear w1
     go_wp2
     rw [HW6.out]
     clear p0 r0 r1 r2 r3 r4 r5
     refine bodyPost_ret (v := .tuple #[.agg #[.int .i64 yo, .int .i64 (Ty.arr (Ty.uint 1) (last - yo)).kind, .int .i64 (Ty.arr (Ty.uint 1) (last - yo)).size, .int .i64 (Ty.arr (Ty.uint 1) (last - yo)).count, .slice A7 n7 c7, .slice B7 m7 e7], .bool true]) (by simp [results, Tryz.results42, go_sem, t0, t1, t2, t3, t4, t5]) rfl ?_
     refine ⟨_, by rw [HF.out], ?_, HX6.out⟩
     rw [HF.out]
     refine ⟨A7, n7, c7, B7, m7, e7, rfl, HBY.out.1, ?_⟩
     have hw4 : W1.heap.size ≤ w4.heap.size := (HX.out.trans HX4.out).size
     have hw1 : w.heap.size < W1.heap.size := World.block_lt_of_cell? W1 ⟨w.heap.size, 0, none⟩ HR.out.1.1
     refine TyV.up (by have := HD.out; omega) (TyV.mono (S := fun b => w4.heap.size ≤ b) (fun b hb _ => .inr (by have hb' : w4.heap.size ≤ b := hb; omega)) (TyV.keep (fun b hb _ => ?_) HV7.out))
     have hb' : w4.heap.size ≤ b := hb
     rw [← HW6.out]
     exact set6_heap _ _ _ _ _ _ _ _ (by omega)
end Go.Proofs.YtacmjhcfjhpkeaaGreatDoor
