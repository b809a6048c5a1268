/- Merged by program from texts of my own. -/
import Derived.Test.YtlmipgdnlfjpaaaThem
namespace Go.Proofs.Ytlmipgdnlfjpaaa
open Go.RowKit Go.Deco Go.Maps
set_option linter.unusedSimpArgs false
set_option linter.unusedVariables false
def keepC (l : List Con) : List Con := l.filter fun c => decide (c.kind = 0 ∨ c.kind = 1)
theorem keepC_step {l : List Con} {k : Nat} {c : Con} (h : l[k]? = some c) : keepC (l.take (k + 1)) = keepC (l.take k) ++ (if c.kind = 0 ∨ c.kind = 1 then [c] else []) := by
 rw [take_snoc' h]
 unfold keepC
 rw [List.filter_append]
 by_cases h2 : c.kind = 0 ∨ c.kind = 1
 ·rw [if_pos h2, List.filter_cons_of_pos (by simpa using h2)]; rfl
 ·rw [if_neg h2, List.filter_cons_of_neg (by simpa using h2)]; rfl
theorem keepC_mem {l : List Con} {c : Con} (h : c ∈ keepC l) : c ∈ l ∧ (c.kind = 0 ∨ c.kind = 1) := by
 unfold keepC at h
 rw [List.mem_filter] at h
 exact ⟨h.1, by simpa using h.2⟩
theorem typeAt_good {l : List Con} {n : Int} {ts : List Ty} (h : Solves l n ts) (x : Nat) (y : Int) : goodT (typeAt (ts.set x Ty.unk) y) = true := by
 unfold typeAt
 by_cases hy : 0 ≤ y
 ·rw [if_pos hy, List.getElem?_set]
  split
  ·split <;> exact unk_good
  ·cases hv : ts[y.toNat]? with
   | none => exact unk_good
   | some t => exact varty_good (h.2 _ t hv)
 ·rw [if_neg hy]; exact unk_good
theorem scal_law {l : List Con} {n : Int} {ts : List Ty} (hok : ∀ c ∈ l, OkC n c) (hk : ∀ c ∈ l, c.kind = 0 ∨ c.kind = 1) (h : Solves l n ts) {x : Nat} {t : Ty} (hx : ts[x]? = some t)
  (hall : ∀ c ∈ l, satC (ts.set x Ty.unk) c = true) : t = Ty.unk := by
 have hna : ∀ c ∈ l, accC c = false := fun c hc => by
  unfold accC
  exact decide_eq_false (by rcases hk c hc with h | h <;> omega)
 rcases h.2 x t hx with ⟨⟨c, hc, ha, _⟩, _⟩ | ⟨_, hs⟩
 ·rw [hna c hc] at ha; cases ha
 ·refine least_var hok (fun y => typeAt (ts.set x Ty.unk) y) hs ?_ (fun y => typeAt_good h x y) (fun c hc h0 => ?_) (fun c hc h1 => ?_) hna
  ·show typeAt (ts.set x Ty.unk) (x : Int) = Ty.unk
   refine typeAt_in rfl ?_
   rw [List.getElem?_set_self (List.getElem?_eq_some_iff.1 hx).1]
  ·have := hall c hc
   unfold satC at this
   rw [if_pos h0] at this
   unfold subG at this
   simp only [Bool.and_eq_true] at this
   exact this.2
  ·have := hall c hc
   unfold satC at this
   rw [if_neg (by omega), if_pos h1] at this
   unfold subG at this
   simp only [Bool.and_eq_true] at this
   exact this.2
set_option maxRecDepth 100000 in
set_option maxHeartbeats 8000000 in
theorem scalar_any (d : Nat) (w : World) (A : Option Addr) (m me : Nat) (l : List Con) (n x : Int) (hxb : i64b x) (hs : Sl (conR (tyR d)) w All (.slice A m me) l) :
  Calls Try.prog 5 #[.slice A m me, .int .i64 n, .int .i64 x] w (TBool w true) := by
 have hln := hs.len
 have HS := hid hs
 have HL := hid hln
 have HFEW := hid (few_any d w A m me l hs)
 obtain ⟨i0, hi0, hz0, hz1, hz2⟩ := info_parts info_ty33
 have HI := hid hi0
 have HZ0 := hid hz0
 have HZ1 := hid hz1
 have HZ2 := hid hz2
 obtain ⟨j0, hj0, hy0, hy1, hy2⟩ := info_parts info_con33
 have HJ := hid hj0
 have HJ0 := hid hy0
 have HJ1 := hid hy1
 have HJ2 := hid hy2
 clear hj0 hy0 hy1 hy2
 clear hs hln hi0 hz0 hz1 hz2
 go_enter Try.func5, Try.ntmps5
 go_wp2_with fail
 refine HFEW.out.mono ?_
 rintro e w1 ⟨b, rfl, hx1, hb⟩
 have HX1 := hid hx1
 have HB := hid hb
 clear hx1 hb
 cases b
 case false =>
  go_wp2_with fail
  refine (ex_any w1).mono ?_
  rintro e w2 ⟨rfl, hx2⟩
  have HX2 := hid hx2
  clear hx2
  go_wp2
  go_ret
  exact ⟨rfl, HX1.out.trans HX2.out⟩
 by_cases h12 : n > 12
 ·have g1 : (12 : Int) < n := h12
  go_wp2_with fail
  refine (ex_any w1).mono ?_
  rintro e w2 ⟨rfl, hx2⟩
  have HX2 := hid hx2
  clear hx2
  go_wp2
  go_ret
  exact ⟨rfl, HX1.out.trans HX2.out⟩
 have g1 : ¬ (12 : Int) < n := h12
 have HN12 := hid g1
 have HFW := hid (HB.out rfl)
 clear h12
 go_wp2_with fail
 refine (cons_any d w1 A m me l (HS.out.ext HX1.out) (by have := HFW.out.1; have := HL.out; omega)).mono ?_
 rintro e w2 ⟨A2, c2, rfl, hl2, hx2⟩
 obtain ⟨L, hL⟩ : ∃ L, l.length = L := ⟨_, rfl⟩
 rw [hL] at hl2 ⊢
 have HLL := hid hL
 have hsm : L ≤ 16 := by have := HFW.out.1; have := HLL.out; omega
 have HS2 := hid hl2
 have HX2 := hid (HX1.out.trans hx2)
 clear hx2 hl2 g1 hL
 go_wp2
 go_loopw [7, 9] (fun o i wr => ∃ (k q : Nat) (B : Option Addr) (cb : Nat), k ≤ L ∧ i = .int .i64 k ∧ q ≤ k ∧ o = .slice B q cb ∧ Hid ((keepC (l.take k)).length = q) ∧ Hid (OwnS (conR (tyR d)) wr w2.heap.size 39 (fun b => b < w2.heap.size) (.slice B q cb) (keepC (l.take k))) ∧ Hid (Ext w2 wr)) (fun _ i _ => L - (intOf i).toNat)
 case atStart => exact ⟨0, 0, none, 0, by omega, rfl, by omega, rfl, hid rfl, hid OwnS.nil, hid (Ext.refl _)⟩
 case round =>
  obtain ⟨k, q, B, cb, hk, rfl, hq, rfl, HQ, HO, HX⟩ := hrel
  obtain ⟨V, hV⟩ : ∃ V, V = wr := ⟨_, rfl⟩
  obtain rfl := hV
  by_cases h1 : k < L
  ·obtain ⟨c, hc⟩ : ∃ c, l[k]? = some c := ⟨_, List.getElem?_eq_getElem (by have := HLL.out; omega)⟩
   have HCC := hid hc
   obtain ⟨d', bx, ox, P1, np1, cp1, P2, np2, cp2, hd, rfl, hv1, hbx, -⟩ := HS2.out.con_at hc
   obtain ⟨x0, x1, x2, x3, x4, x5, x6, x7, x8, x9⟩ := hbx
   have x0 := HX.out.cell x0
   have x1 := HX.out.cell x1
   have x2 := HX.out.cell x2
   have x3 := HX.out.cell x3
   have x4 := HX.out.cell x4
   have x5 := HX.out.cell x5
   have x6 := HX.out.cell x6
   have x7 := HX.out.cell x7
   have x8 := HX.out.cell x8
   have x9 := HX.out.cell x9
   have hrel : (conR (tyR d)).rel V (fun b => b < w2.heap.size ∧ some b ≠ (Value.slice B q cb).ownBlock) [.int .i64 c.kind, .int .i64 c.a, .int .i64 c.b, .int .i64 c.off, .int .i64 c.width, .int .i64 c.type.kind, .int .i64 c.type.size, .int .i64 c.type.count, .slice P1 np1 cp1, .slice P2 np2 cp2] c := by
    subst hd
    refine (conR (tyR (d' + 1))).ext HX.out ((conR (tyR (d' + 1))).mono (fun b _ hi => ⟨hi.lt, fun e => ?_⟩) (con_rel.2 hv1))
    have h6 := (HO.out.block b e.symm).1
    have h7 := hi.lt
    omega
   have HRL := hid hrel
   have i1 : (k : Int) < (L : Int) := by omega
   obtain ⟨kd, hkd⟩ : ∃ kd, c.kind = kd := ⟨_, rfl⟩
   rw [hkd] at x0 HRL
   have HKD := hid hkd
   clear hrel hv1 hd hc hkd
   by_cases h2 : kd = 0
   ·subst h2
    have hks := keepC_step HCC.out
    rw [HKD.out, if_pos (by decide)] at hks
    have HKS := hid hks
    clear hks
    go_wp2_with (first
     | (at_builtin; refine wpList_app1l rfl (.tmp 45) (.tmp 50) 25 rfl w2.heap.size 39 j0 _ 10 112 Try.underlying25 HJ.out HJ0.out HJ1.out HJ2.out rfl (conR (tyR d)) (conR_size _) (.slice B q cb) (keepC (l.take k)) rfl HO.out V.heap.size rfl c rfl HRL.out (by have := HQ.out; omega) (by have := HQ.out; omega) HX.out.size ?_; intro A9 c9 w9 ho9 hg9 hl9; rw [HQ.out] at ho9; rw [HQ.out]; have HO9 := hid ho9; have HG9 := hid hg9; clear ho9 hg9 hl9)
     | fail)
    first
     | go_roundw
     | refine ⟨?rel, ?measure⟩
    case rel => exact ⟨k + 1, q + 1, A9, c9, by omega, by go_num, by omega, by go_num, hid (by rw [HKS.out, List.length_append, HQ.out]; rfl), hid (by rw [HKS.out]; exact HO9.out), hid ((HX.out.alloc _).grown HG9.out (fun q hq => (HO.out.block q hq).1))⟩
    case measure => simp [intOf]; omega
   by_cases h3 : kd = 1
   ·subst h3
    have hks := keepC_step HCC.out
    rw [HKD.out, if_pos (by decide)] at hks
    have HKS := hid hks
    clear hks h2
    go_wp2_with (first
     | (at_builtin; refine wpList_app1l rfl (.tmp 45) (.tmp 50) 25 rfl w2.heap.size 39 j0 _ 10 112 Try.underlying25 HJ.out HJ0.out HJ1.out HJ2.out rfl (conR (tyR d)) (conR_size _) (.slice B q cb) (keepC (l.take k)) rfl HO.out V.heap.size rfl c rfl HRL.out (by have := HQ.out; omega) (by have := HQ.out; omega) HX.out.size ?_; intro A9 c9 w9 ho9 hg9 hl9; rw [HQ.out] at ho9; rw [HQ.out]; have HO9 := hid ho9; have HG9 := hid hg9; clear ho9 hg9 hl9)
     | fail)
    first
     | go_roundw
     | refine ⟨?rel, ?measure⟩
    case rel => exact ⟨k + 1, q + 1, A9, c9, by omega, by go_num, by omega, by go_num, hid (by rw [HKS.out, List.length_append, HQ.out]; rfl), hid (by rw [HKS.out]; exact HO9.out), hid ((HX.out.alloc _).grown HG9.out (fun q hq => (HO.out.block q hq).1))⟩
    case measure => simp [intOf]; omega
   ·have hks := keepC_step HCC.out
    rw [HKD.out, if_neg (by omega), List.append_nil] at hks
    have HKS := hid hks
    have g0 : (kd == 0) = false := by simp [h2]
    have g1 : (kd == 1) = false := by simp [h3]
    clear hks h2 h3
    go_wp2
    first
     | go_roundw
     | refine ⟨?rel, ?measure⟩
    case rel => exact ⟨k + 1, q, B, cb, by omega, by go_num, by omega, rfl, hid (by rw [HKS.out]; exact HQ.out), hid (by rw [HKS.out]; exact HO.out), HX⟩
    case measure => simp [intOf]; omega
  ·obtain rfl : k = L := by omega
   have i1 : ¬ (k : Int) < (k : Int) := by omega
   have ht : l.take k = l := List.take_of_length_le (by have := HLL.out; omega)
   rw [ht] at HQ HO
   obtain ⟨F, hF⟩ : ∃ F, keepC l = F := ⟨_, rfl⟩
   have hmem : ∀ c ∈ F, c ∈ l ∧ (c.kind = 0 ∨ c.kind = 1) := fun c hc => keepC_mem (hF ▸ hc)
   rw [hF] at HQ HO
   have hrl := HQ.out
   have hso := HO.out.sl
   have HSF := hid hso
   have HRL := hid hrl
   have HMM := hid hmem
   have HFR : Hid (F.length ≤ 16 ∧ ∀ c ∈ F, shalT c.type 64 = true → cntT c.type ≤ 40) := hid ⟨by omega, fun c hc => HFW.out.2 c (hmem c hc).1⟩
   have HXV := hid (HX2.out.trans HX.out)
   clear hmem hF hrl h1 ht hso
   go_wp2_with fail
   refine (solve_any d V B q cb F n HSF.out (few_cnt HFR.out)).mono ?_
   rintro e w3 hsv
   rcases hsv with ⟨h1, rfl, hx3⟩ | ⟨hz, ts, A3, c3, B3, d3, dd, rfl, hso, hst, hsb, hx3⟩
   ·obtain ⟨ck, hck⟩ : ∃ ck, checkC F n = ck := ⟨_, rfl⟩
    rw [hck] at h1 ⊢
    have HX3 := hid (HXV.out.trans hx3)
    have g1 : ((ck : Int) != 0) = true := by simp; omega
    obtain ⟨WN4, hW5⟩ : ∃ W5, (w3).alloc (.cells #[.slice none 0 0, .slice none 0 0] 30) = W5 := ⟨_, rfl⟩
    have hB5 : Box2 WN4 (w3).heap.size (.slice none 0 0) (.slice none 0 0) := by rw [← hW5]; exact Box2.new w3 _ _ _
    have hE5 : Ext w3 WN4 := by rw [← hW5]; exact (Ext.refl _).alloc _
    obtain ⟨WS4, hW6, hB6, hH6, hS6, hX6⟩ := box2_set hB5 (.slice none 0 0) (.slice none 0 0)
    have HXS4 := hid (hX6 w3 hE5 (Nat.le_refl _))
    have HWS4 := hid hW6
    have HBS4 := hid hB6
    obtain ⟨z0, z1, zf⟩ := hB5
    have f0 := zf 0
    have f1 := zf 1
    obtain ⟨t0, t1, -⟩ := hB6
    clear hE5 hW6 hH6 hS6 hX6 zf
    clear h1 hck hx3
    go_upto_region 11 with fail
    rw [HWS4.out]
    clear z0 z1 f0 f1 hW5
    have HXY := hid (HX3.out.trans HXS4.out)
    go_wp2_with fail
    refine (ex_any _).mono ?_
    rintro e w6 ⟨rfl, hx6⟩
    have HX6 := hid hx6
    clear hx6
    go_wp2
    go_ret
    exact ⟨rfl, HXY.out.trans HX6.out⟩
   have HX3 := hid (HXV.out.trans hx3)
   have HX33 := hid hx3
   have HSO := hid hso
   have HTS := hid (hst.mono (S' := fun b => b < w3.heap.size) fun _ _ hi => hi.lt)
   have HNN := hid hso.1
   have HOK := hid (check_zeroC.1 hz)
   obtain ⟨N, rfl⟩ : ∃ N : Nat, n = N := ⟨n.toNat, by have := HOK.out.1; omega⟩
   obtain ⟨K, hK⟩ : ∃ K, ts.length = K := ⟨_, rfl⟩
   rw [hK] at HTS ⊢
   obtain rfl : K = N := by have := HNN.out; omega
   have HK := hid hK
   obtain ⟨r, hr⟩ : ∃ r, (badL ts).length = r := ⟨_, rfl⟩
   rw [hr]
   have hkm : K ≤ 12 := by have := HN12.out; omega
   clear hz hso hst hsb hx3 hK hr
   obtain ⟨WN4, hW5⟩ : ∃ W5, (w3).alloc (.cells #[.slice none 0 0, .slice none 0 0] 30) = W5 := ⟨_, rfl⟩
   have hB5 : Box2 WN4 (w3).heap.size (.slice none 0 0) (.slice none 0 0) := by rw [← hW5]; exact Box2.new w3 _ _ _
   have hE5 : Ext w3 WN4 := by rw [← hW5]; exact (Ext.refl _).alloc _
   obtain ⟨WS4, hW6, hB6, hH6, hS6, hX6⟩ := box2_set hB5 (.slice A3 K c3) (.slice B3 r d3)
   have HXS4 := hid (hX6 w3 hE5 (Nat.le_refl _))
   have HWS4 := hid hW6
   have HBS4 := hid hB6
   obtain ⟨z0, z1, zf⟩ := hB5
   have f0 := zf 0
   have f1 := zf 1
   obtain ⟨t0, t1, -⟩ := hB6
   clear hE5 hW6 hH6 hS6 hX6 zf
   go_upto_region 11 with fail
   rw [HWS4.out]
   clear z0 z1 f0 f1 hW5
   have HXY := hid (HX3.out.trans HXS4.out)
   by_cases hx0 : x < 0
   ·skip
    go_wp2_with fail
    refine (ex_any _).mono ?_
    rintro e w6 ⟨rfl, hx6⟩
    have HX6 := hid hx6
    clear hx6
    go_wp2
    go_ret
    exact ⟨rfl, HXY.out.trans HX6.out⟩
   have hx0' : ¬ x < 0 := hx0
   by_cases hxK : (K : Int) ≤ x
   ·skip
    go_wp2_with fail
    refine (ex_any _).mono ?_
    rintro e w6 ⟨rfl, hx6⟩
    have HX6 := hid hx6
    clear hx6
    go_wp2
    go_ret
    exact ⟨rfl, HXY.out.trans HX6.out⟩
   obtain ⟨X, rfl⟩ : ∃ X : Nat, x = X := ⟨x.toNat, by omega⟩
   have i2 : (X : Int) < (K : Int) := by omega
   have hXK : X < K := by omega
   obtain ⟨V4, hV4⟩ : ∃ V4, WS4 = V4 := ⟨_, rfl⟩
   obtain ⟨p, hp⟩ : ∃ p, w3.heap.size = p := ⟨_, rfl⟩
   rw [hV4] at HXY t0 t1 HXS4 ⊢
   rw [hp] at t0 t1 ⊢
   have HT0 := hid t0
   have HT1 := hid t1
   have HPL := hid (show p < V4.heap.size from by have := World.block_lt_of_cell? _ _ t0; exact this)
   obtain ⟨xt, hxt⟩ : ∃ xt, ts[X]? = some xt := ⟨_, List.getElem?_eq_getElem (by have := HK.out; omega)⟩
   have HXT := hid hxt
   have HTS4 := hid ((HTS.out.ext HXS4.out).mono (S' := fun b => b < V4.heap.size) fun _ _ hi => hi.lt)
   clear hV4 hp HWS4 HBS4 hxt
   obtain ⟨d6, bx, ox, P1, np1, cp1, P2, np2, cp2, hd6, rfl, -, x0, -⟩ := HTS4.out.ty_at HXT.out
   have HX0 := hid x0
   clear x0
   obtain ⟨V5, hV5⟩ : ∃ V5, V4.alloc (.cells #[] 37) = V5 := ⟨_, rfl⟩
   have hE5 : Ext V4 V5 := by rw [← hV5]; exact (Ext.refl V4).alloc _
   have hOF : OwnS (tyR dd) V5 V4.heap.size 37 (fun b => b < V4.heap.size) (.slice (some ⟨V4.heap.size, 0, none⟩) 0 0) [] := by rw [← hV5]; exact OwnS.fresh0 V4 (Nat.le_refl _)
   have HOF := hid hOF
   have HE5 := hid hE5
   have t5 := hE5.cell t0
   clear hE5 hOF
   go_upto_region 14 with (first
    | (at_builtin
       refine wpList_appS rfl (.tmp 72) (.tmp 74) 27 rfl V4.heap.size 37 i0 _ 5 72 Try.underlying27 HI.out HZ0.out HZ1.out HZ2.out rfl (tyR dd) (tyR_size dd) _ [] rfl HOF.out (some ⟨bx, ox, none⟩) K c3 ts (fun b => b < V4.heap.size) rfl (HTS4.out.ext HE5.out) (fun b hb _ => ⟨hb, own_ne hb⟩) (by simp; omega) (by simp; omega) HE5.out.size ?_
       intro A8 c8 w8 ho8 hg8 hor8
       simp only [List.length_nil, Nat.zero_add, List.nil_append] at ho8 hor8 ⊢
       obtain ⟨g, rfl, hgb, hgs⟩ := ho8.at0 (by omega)
       have hx8 : Ext V4 w8 := HE5.out.grown hg8 (fun q hq => by have := own_at hq; omega)
       have HO8 := hid ho8
       have HX8 := hid hx8
       have HGB := hid hgb
       have HGS := hid hgs
       clear ho8 hg8 hor8 hx8 hgb hgs t0 t1 t5 hV5
       obtain ⟨WN8, hW5⟩ : ∃ W5, (w8).alloc (.cells #[.slice none 0 0, .slice none 0 0] 30) = W5 := ⟨_, rfl⟩
       have hB5 : Box2 WN8 (w8).heap.size (.slice none 0 0) (.slice none 0 0) := by rw [← hW5]; exact Box2.new w8 _ _ _
       have hE5 : Ext w8 WN8 := by rw [← hW5]; exact (Ext.refl _).alloc _
       obtain ⟨WS8, hW6, hB6, hH6, hS6, hX6⟩ := box2_set hB5 (.slice (some ⟨g, 0, none⟩) K c8) (.slice none 0 0)
       have HXS8 := hid (hX6 w8 hE5 (Nat.le_refl _))
       have HWS8 := hid hW6
       have HBS8 := hid hB6
       obtain ⟨z0, z1, zf⟩ := hB5
       have f0 := zf 0
       have f1 := zf 1
       obtain ⟨t0, t1, -⟩ := hB6
       clear hE5 hW6 hH6 hS6 hX6 zf
        )
    | fail)
   rw [HWS8.out]
   clear z0 z1 f0 f1 hW5
   obtain ⟨p8, hp8⟩ : ∃ p8, w8.heap.size = p8 := ⟨_, rfl⟩
   have HP8 := hid hp8
   have hos := HO8.out.ext HXS8.out
   obtain ⟨dq, R1, nr1, cr1, R2, nr2, cr2, hdq, -, y0, y1, y2, y3, y4, hfr⟩ := ownTy_at hos HXT.out
   have f0 := hfr 0 (by omega)
   rw [Nat.add_zero] at f0
   have f1 := hfr 1 (by omega)
   have f2 := hfr 2 (by omega)
   have f3 := hfr 3 (by omega)
   have f4 := hfr 4 (by omega)
   subst hdq
   have hown9 : OwnS (tyR (dq + 1)) (setRow WS8 g (X * 5) [.int .i64 0, .int .i64 0, .int .i64 0, .slice none 0 0, .slice none 0 0]) V4.heap.size 37 (fun b => b < V4.heap.size) (.slice (some ⟨g, 0, none⟩) K c8) (ts.set X Ty.unk) := ownTy_put (x' := Ty.unk) hos HXT.out tyv_unk
   obtain ⟨W9, hW9⟩ : ∃ W9, setRow WS8 g (X * 5) [.int .i64 0, .int .i64 0, .int .i64 0, .slice none 0 0, .slice none 0 0] = W9 := ⟨_, rfl⟩
   have hx9 : Ext V4 W9 := by rw [← hW9]; exact setRow_ext _ g _ (HX8.out.trans HXS8.out) HGB.out
   have hb9 : Box2 W9 w8.heap.size (.slice (some ⟨g, 0, none⟩) K c8) (.slice none 0 0) := HBS8.out.block (by rw [← hW9]; exact Go.Deco.setRow_heap _ _ g _ _ (by have := HGS.out; omega))
   rw [hW9] at hown9
   have HO9 := hid hown9
   have HX9 := hid hx9
   have HW9 := hid hW9
   have HB9 := hid hb9
   clear hos hfr hown9 hx9 hW9 hb9 hp8
   go_upto_region 15 with fail
   rw [show (((((World.setCell WS8 ⟨g, X * 5, none⟩ (.int .i64 0)).setCell ⟨g, X * 5 + 1, none⟩ (.int .i64 0)).setCell ⟨g, X * 5 + 2, none⟩ (.int .i64 0)).setCell ⟨g, X * 5 + 3, none⟩ (.slice none 0 0)).setCell ⟨g, X * 5 + 4, none⟩ (.slice none 0 0)) = W9 from HW9.out]
   clear y0 y1 y2 y3 y4 f0 f1 f2 f3 f4 t0 t1
   have hp8 := HP8.out
   have hb9 := HB9.out
   rw [hp8] at hb9 ⊢
   have HB9' := hid hb9
   have HF9 := hid (HSF.out.ext (HX33.out.trans (HXS4.out.trans HX9.out)))
   obtain ⟨us, hus⟩ : ∃ us, ts.set X Ty.unk = us := ⟨_, rfl⟩
   have hbn : ∀ t ∈ us, bnT t = true := fun t ht => by
    rw [← hus] at ht
    rcases List.mem_or_eq_of_mem_set ht with h | h
    ·exact solves_bn HSO.out t h
    ·rw [h]; decide
   have HBN := hid hbn
   have HUS := hid hus
   rw [hus] at HO9
   have hqs : q ≤ 16 := by have := HRL.out; have := HFR.out.1; omega
   clear hbn hus hb9 hp8
   go_wp2
   go_loopw [13, 14] (fun o i wr => ∃ (k2 : Nat) (b : Bool), k2 ≤ q ∧ i = .int .i64 k2 ∧ o = .bool b ∧ Hid (Ext W9 wr) ∧ Hid (b = true → ∀ c ∈ F.take k2, satC us c = true)) (fun _ i _ => q - (intOf i).toNat)
   case atStart => exact ⟨0, true, by omega, rfl, rfl, hid (Ext.refl _), hid (by simp)⟩
   case round =>
    obtain ⟨k2, b, hk2, rfl, rfl, HX, HT⟩ := hrel
    obtain ⟨U, hU⟩ : ∃ U, U = wr := ⟨_, rfl⟩
    obtain rfl := hU
    by_cases h1 : k2 < q
    ·obtain ⟨c, hc⟩ : ∃ c, F[k2]? = some c := ⟨_, List.getElem?_eq_getElem (by have := HRL.out; omega)⟩
     have HCC := hid hc
     obtain ⟨d', by', oy, Q1, nq1, cq1, Q2, nq2, cq2, hd, rfl, hv1, hbx, -⟩ := (HF9.out.ext HX.out).con_at hc
     obtain ⟨x0, x1, x2, x3, x4, x5, x6, x7, x8, x9⟩ := hbx
     obtain ⟨b0, b1, -⟩ := HB9'.out.ext HX.out
     obtain ⟨sg, hsg⟩ : ∃ sg, satC us c = sg := ⟨_, rfl⟩
     have HSC := hid (fun w' (hx : Ext U w') => sat_any (dq + 1 + d') w' (some ⟨g, 0, none⟩) none K c8 0 0 us c _ (sl_le (d := dq + 1) (by omega) (HO9.out.sl.ext (HX.out.trans hx))) HBN.out (conv_le (d := d') (by omega) (hv1.ext hx)))
     rw [hsg] at HSC
     have HSG := hid hsg
     have HSK := hid (fun (w' : World) (hx : Ext U w') => (show w'.cell? ⟨p8, 0, none⟩ = some (.slice (some ⟨g, 0, none⟩) K c8) ∧ w'.cell? ⟨p8, 1, none⟩ = some (.slice none 0 0) ∧ w'.cell? ⟨by', oy + k2 * 10, none⟩ = some (.int .i64 c.kind) ∧ w'.cell? ⟨by', oy + k2 * 10 + 1, none⟩ = some (.int .i64 c.a) ∧ w'.cell? ⟨by', oy + k2 * 10 + 2, none⟩ = some (.int .i64 c.b) ∧ w'.cell? ⟨by', oy + k2 * 10 + 3, none⟩ = some (.int .i64 c.off) ∧ w'.cell? ⟨by', oy + k2 * 10 + 4, none⟩ = some (.int .i64 c.width) ∧ w'.cell? ⟨by', oy + k2 * 10 + 5, none⟩ = some (.int .i64 c.type.kind) ∧ w'.cell? ⟨by', oy + k2 * 10 + 6, none⟩ = some (.int .i64 c.type.size) ∧ w'.cell? ⟨by', oy + k2 * 10 + 7, none⟩ = some (.int .i64 c.type.count) ∧ w'.cell? ⟨by', oy + k2 * 10 + 8, none⟩ = some (.slice Q1 nq1 cq1) ∧ w'.cell? ⟨by', oy + k2 * 10 + 9, none⟩ = some (.slice Q2 nq2 cq2) from ⟨hx.cell b0, hx.cell b1, hx.cell x0, hx.cell x1, hx.cell x2, hx.cell x3, hx.cell x4, hx.cell x5, hx.cell x6, hx.cell x7, hx.cell x8, hx.cell x9⟩))
     have i1 : (k2 : Int) < (q : Int) := by omega
     clear hc hd hv1 x0 x1 x2 x3 x4 x5 x6 x7 x8 x9 b0 b1 hsg
     go_upto_region 19 with fail
     cases b
     case false =>
      have HXg1q_0 := hid ((Ext.refl U).drew)
      refine wp_region_held_drew (S := (fun w' => w'.cell? ⟨p8, 0, none⟩ = some (.slice (some ⟨g, 0, none⟩) K c8) ∧ w'.cell? ⟨p8, 1, none⟩ = some (.slice none 0 0) ∧ w'.cell? ⟨by', oy + k2 * 10, none⟩ = some (.int .i64 c.kind) ∧ w'.cell? ⟨by', oy + k2 * 10 + 1, none⟩ = some (.int .i64 c.a) ∧ w'.cell? ⟨by', oy + k2 * 10 + 2, none⟩ = some (.int .i64 c.b) ∧ w'.cell? ⟨by', oy + k2 * 10 + 3, none⟩ = some (.int .i64 c.off) ∧ w'.cell? ⟨by', oy + k2 * 10 + 4, none⟩ = some (.int .i64 c.width) ∧ w'.cell? ⟨by', oy + k2 * 10 + 5, none⟩ = some (.int .i64 c.type.kind) ∧ w'.cell? ⟨by', oy + k2 * 10 + 6, none⟩ = some (.int .i64 c.type.size) ∧ w'.cell? ⟨by', oy + k2 * 10 + 7, none⟩ = some (.int .i64 c.type.count) ∧ w'.cell? ⟨by', oy + k2 * 10 + 8, none⟩ = some (.slice Q1 nq1 cq1) ∧ w'.cell? ⟨by', oy + k2 * 10 + 9, none⟩ = some (.slice Q2 nq2 cq2))) (by kernel_rfl) (HSK.out _ (Ext.refl _).drew) (fun hSg1q0 => ?_)
      refine rgT2 0 1 ?_
      refine rgU4 2 3 4 5 ?_
      refine rgU 6 ?_
      refine wpAnyH_ready (rs := [7]) (by kernel_rfl) (by simp) ?_
      refine (AllReadyH.consL rfl (fun K hK => ?g1qb7x8) AllReadyH.nil)
      case' g1qb7x8 =>
       refine cast (if_neg (fun h => Bool.noConfusion (show false = true from h))).symm ?_
       refine rgK hK (by assumption) (fun hSg1q0n8 => ?_)
       clear hK K
       refine rgT2 8 9 ?_
       refine wpAnyH_done (by kernel_rfl) ?_ _
       go_wp2
       first
        | go_roundw
        | refine ⟨?rel, ?measure⟩
       case rel => exact ⟨k2 + 1, false, by omega, by go_num, rfl, hid HX.out.drew, hid (fun h => by cases h)⟩
       case measure => simp [intOf]; omega
     case true =>
      have HXg2q_0 := hid ((Ext.refl U).drew)
      refine wp_region_held_drew (S := (fun w' => w'.cell? ⟨p8, 0, none⟩ = some (.slice (some ⟨g, 0, none⟩) K c8) ∧ w'.cell? ⟨p8, 1, none⟩ = some (.slice none 0 0) ∧ w'.cell? ⟨by', oy + k2 * 10, none⟩ = some (.int .i64 c.kind) ∧ w'.cell? ⟨by', oy + k2 * 10 + 1, none⟩ = some (.int .i64 c.a) ∧ w'.cell? ⟨by', oy + k2 * 10 + 2, none⟩ = some (.int .i64 c.b) ∧ w'.cell? ⟨by', oy + k2 * 10 + 3, none⟩ = some (.int .i64 c.off) ∧ w'.cell? ⟨by', oy + k2 * 10 + 4, none⟩ = some (.int .i64 c.width) ∧ w'.cell? ⟨by', oy + k2 * 10 + 5, none⟩ = some (.int .i64 c.type.kind) ∧ w'.cell? ⟨by', oy + k2 * 10 + 6, none⟩ = some (.int .i64 c.type.size) ∧ w'.cell? ⟨by', oy + k2 * 10 + 7, none⟩ = some (.int .i64 c.type.count) ∧ w'.cell? ⟨by', oy + k2 * 10 + 8, none⟩ = some (.slice Q1 nq1 cq1) ∧ w'.cell? ⟨by', oy + k2 * 10 + 9, none⟩ = some (.slice Q2 nq2 cq2))) (by kernel_rfl) (HSK.out _ (Ext.refl _).drew) (fun hSg2q0 => ?_)
      refine rgT6 0 1 2 3 4 5 ?_
      refine rgT 6 ?_
      refine wpAnyH_ready (rs := [7]) (by kernel_rfl) (by simp) ?_
      refine (AllReadyH.consL rfl (fun K hK => ?g2qb7x8) AllReadyH.nil)
      case' g2qb7x8 =>
       go_simp
       go_at_call 11
       refine (HSC.out _ HXg2q_0.out).mono ?_
       rintro e w9 ⟨rfl, hEg2q1⟩
       have HXg2q_1 := hid (HXg2q_0.out.trans hEg2q1)
       clear hEg2q1
       refine rgK hK (HSK.out _ HXg2q_1.out) (fun hSg2q1 => ?_)
       clear hK K
       refine rgT2 8 9 ?_
       refine wpAnyH_done (by kernel_rfl) ?_ _
       go_wp2
       first
        | go_roundw
        | refine ⟨?rel, ?measure⟩
       case rel => exact ⟨k2 + 1, sg, by omega, by go_num, rfl, hid (by first | exact HX.out.trans HXg2q_1.out | exact HX.out.trans HXg1q_1.out), hid (fun h => by
        intro c' hc'
        rw [take_snoc' HCC.out, List.mem_append, List.mem_singleton] at hc'
        rcases hc' with h5 | h5
        ·exact HT.out rfl c' h5
        ·rw [h5, HSG.out, h])⟩
       case measure => simp [intOf]; omega
    ·obtain rfl : k2 = q := by omega
     have i1 : ¬ (k2 : Int) < (k2 : Int) := by omega
     have s0 := HX.out.cell (HX9.out.cell HT0.out)
     have x0 := HX.out.cell (HX9.out.cell HX0.out)
     clear h1
     cases b
     case false =>
      go_wp2_with fail
      refine (ex_any _).mono ?_
      rintro e w10 ⟨rfl, hx10⟩
      have HX10 := hid hx10
      clear hx10
      go_wp2
      go_ret
      exact ⟨rfl, HXY.out.trans (HX9.out.trans (HX.out.trans HX10.out))⟩
     case true =>
      have hall := HT.out rfl
      rw [List.take_of_length_le (by have := HRL.out; omega), ← HUS.out] at hall
      obtain rfl := scal_law HOK.out.2.2.2 (fun c hc => (HMM.out c hc).2) HSO.out HXT.out hall
      have x0 : U.cell? ⟨bx, ox + X * 5, none⟩ = some (.int .i64 0) := x0
      clear hall
      go_wp2_with fail
      refine (ex_any _).mono ?_
      rintro e w10 ⟨rfl, hx10⟩
      have HX10 := hid hx10
      clear hx10
      go_wp2
      go_ret
      exact ⟨rfl, HXY.out.trans (HX9.out.trans (HX.out.trans HX10.out))⟩
end Go.Proofs.Ytlmipgdnlfjpaaa
