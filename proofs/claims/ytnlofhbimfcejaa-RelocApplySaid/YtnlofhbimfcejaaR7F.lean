/- decompilerref07: Apply. -/
import Derived.Test.YtnlofhbimfcejaaR7D
import Derived.Test.YtnlofhbimfcejaaR7B
import Derived.Test.YtnlofhbimfcejaaRelP
import Derived.Test.YtnlofhbimfcejaaRelH
namespace Go.Proofs.Ytnlofhbimfcejaa
open Go.RowKit Go.Deco
set_option linter.unusedSimpArgs false
set_option linter.unusedVariables false

/-- A block that holds none of the sections' rows. -/
def FreeA (v : Value) (H : List Hd) (b : Nat) : Prop := v.ownBlock ≠ some b ∧ ∀ (k : Nat) h, H[k]? = some h → h.dv.ownBlock ≠ some b
theorem SecsX.farB {w : World} {base hi : Nat} {tS t8 : TypeId} {v : Value} {H : List Hd} {l : List Sec} (x : SecsX w base hi tS t8 v H l) {p : Addr} {u : Value} (hp : FreeA v H p.block) : SecsX (w.setCell p u) base hi tS t8 v H l :=
  ⟨x.own.set_far hp.1 (fun _ h => h.elim), x.len, x.of, fun k h s hk hs => (x.data k h s hk hs).set_far (hp.2 k h hk) (fun _ h => h.elim), x.apart, x.sep, x.topv, x.topd⟩
theorem free_highA {w : World} {base hi : Nat} {tS t8 : TypeId} {v : Value} {H : List Hd} {l : List Sec} (x : SecsX w base hi tS t8 v H l) {b : Nat} (hb : hi ≤ b ∨ b < base) : FreeA v H b := by
  refine ⟨fun e => ?_, fun k h hk e => ?_⟩
  · have h1 := x.topv b e
    have h2 := x.own.block b e
    omega
  · have h1 := x.topd k h b hk e
    obtain ⟨s, hs⟩ : ∃ s, l[k]? = some s := ⟨_, List.getElem?_eq_getElem (by have := (List.getElem?_eq_some_iff.1 hk).1; have := x.len; omega)⟩
    have h2 := (x.data k h s hk hs).block b e
    omega
theorem applyR_bad {o : Ob} (h : obCheck o ≠ 0) : applyR o = (Ob.zero, obCheck o) := by rw [applyR, if_neg h]
theorem applyR_ok {o : Ob} (h : obCheck o = 0) : applyR o = (applyOb o, 0) := by rw [applyR, if_pos h]
/-- The first bytes of four, written one by one. -/
def pw (d : List Nat) (f n : Nat) : Nat → List Nat
  | 0 => d
  | 1 => d.set f (n % 256)
  | 2 => (d.set f (n % 256)).set (f + 1) (n / 256 % 256)
  | 3 => ((d.set f (n % 256)).set (f + 1) (n / 256 % 256)).set (f + 2) (n / 65536 % 256)
  | _ => (((d.set f (n % 256)).set (f + 1) (n / 256 % 256)).set (f + 2) (n / 65536 % 256)).set (f + 3) (n / 16777216 % 256)
theorem pw_len (d : List Nat) (f n : Nat) : ∀ j, (pw d f n j).length = d.length
  | 0 => rfl
  | 1 => by simp [pw]
  | 2 => by simp [pw]
  | 3 => by simp [pw]
  | _ + 4 => by simp [pw]
theorem pw_four {d : List Nat} {f n : Nat} (h : f + 4 ≤ d.length) : pw d f n 4 = put4 d f n := by
  apply List.ext_getElem
  · rw [pw_len, put4_len h]
  · intro i h1 h2
    simp only [pw, put4, bytes4, List.getElem_set, List.getElem_append, List.getElem_take, List.getElem_drop, List.length_take, List.length_append, List.length_cons, List.length_nil]
    by_cases c0 : i < f
    · have a0 : ¬ f = i := by omega
      have a1 : ¬ f + 1 = i := by omega
      have a2 : ¬ f + 2 = i := by omega
      have a3 : ¬ f + 3 = i := by omega
      have a4 : i < min f d.length := by omega
      have a5 : i < min f d.length + (0 + 1 + 1 + 1 + 1) := by omega
      simp [a0, a1, a2, a3, a4, a5]
    · have e : min f d.length = f := by omega
      by_cases c1 : i < f + 4
      · obtain rfl | rfl | rfl | rfl : i = f ∨ i = f + 1 ∨ i = f + 2 ∨ i = f + 3 := by omega
        all_goals (simp [e]; try omega)
      · have a0 : ¬ f = i := by omega
        have a1 : ¬ f + 1 = i := by omega
        have a2 : ¬ f + 2 = i := by omega
        have a3 : ¬ f + 3 = i := by omega
        have a4 : ¬ i < f + 4 := by omega
        have a6 : ¬ i < f := by omega
        have a5 : f + 4 + (i - (f + 4)) = i := by omega
        simp [a0, a1, a2, a3, a4, a5, a6, e]
theorem grownBy_byte {w : World} (g k : Nat) (v : Value) : w.grownBy (w.setCell ⟨g, k, none⟩ v) (some g) :=
  ⟨rfl, rfl, rfl, by simp, fun i hi hne => Below.heap_setCell _ _ _ i (by intro e; exact hne (by rw [e]))⟩
theorem SecsX.byte {w : World} {base hi : Nat} {tS : TypeId} {v : Value} {H : List Hd} {l : List Sec} (x : SecsX w base hi tS 5 v H l) {k g c f b : Nat} {h : Hd} {s : Sec} (hk : H[k]? = some h) (hs : l[k]? = some s) (hd : h.dv = .slice (some ⟨g, 0, none⟩) s.data.length c) (hb : b < 256) :
    SecsX (w.setCell ⟨g, f, none⟩ (.int .u8 b)) base hi tS 5 v H (l.set k { s with data := s.data.set f b }) := by
  have h0 := x.data k h s hk hs
  rw [hd] at h0
  refine x.bytes hk hs ?_ (by simp) ?_
  · rw [hd]
    exact OwnS.num_set h0 hb f
  · rw [hd]
    exact grownBy_byte g f _

set_option maxRecDepth 100000 in
set_option maxHeartbeats 8000000 in
theorem apply7_any (w : World) (o : Ob) (As Ay Ar : Option Addr) (ns cs ny cy nr cr : Nat) (hs : Sl secR w All (.slice As ns cs) o.secs) (hy : Sl symR w All (.slice Ay ny cy) o.syms) (hr : Sl relR w All (.slice Ar nr cr) o.rels) :
    Calls Try.prog 20 #[.agg #[.int .u32 o.entry, .slice As ns cs, .slice Ay ny cy, .slice Ar nr cr]] w (ObR w (applyR o).1 (applyR o).2) := by
  have HLS := hid hs.len
  have HLY := hid hy.len
  have HLR := hid hr.len
  have hyc := hy.cap
  have hrc := hr.cap
  obtain ⟨q, hq⟩ : ∃ q, obCheck o = q := ⟨_, rfl⟩
  have HQ := hid hq
  obtain ⟨W0, hW0⟩ : ∃ W0, (w.alloc (.cells #[.int .u32 o.entry, .slice As ns cs, .slice Ay ny cy, .slice Ar nr cr] 27)).alloc (.cells #[.int .u32 0, .slice none 0 0, .slice none 0 0, .slice none 0 0] 27) = W0 := ⟨_, rfl⟩
  have hE0 : Ext w W0 := by rw [← hW0]; exact ((Ext.refl w).alloc _).alloc _
  have hB0 : Box4 W0 w.heap.size (.int .u32 o.entry) (.slice As ns cs) (.slice Ay ny cy) (.slice Ar nr cr) := by
    rw [← hW0]
    exact (Box4.new w _ _ _ _ _).ext ((Ext.refl _).alloc _)
  have hR0 : Box4 W0 (w.heap.size + 1) (.int .u32 0) (.slice none 0 0) (.slice none 0 0) (.slice none 0 0) := by
    rw [← hW0]
    have := Box4.new (w.alloc (.cells #[.int .u32 o.entry, .slice As ns cs, .slice Ay ny cy, .slice Ar nr cr] 27)) (.int .u32 0) (.slice none 0 0) (.slice none 0 0) (.slice none 0 0) 27
    rw [World.size_alloc] at this
    exact this
  have HB0 := hid hB0
  have HR0 := hid hR0
  have HE0 := hid hE0
  have HYW := hid hy
  have HS := hid (hs.ext hE0)
  have HY := hid (hy.ext hE0)
  have HR := hid (hr.ext hE0)
  have hck := check7_any W0 o As Ay Ar ns cs ny cy nr cr HS.out HY.out HR.out
  have HCK := hid hck
  have hlt := hR0.lt
  obtain ⟨b0, b1, b2, b3, -⟩ := HB0.out
  clear hq hE0 hB0 hR0 hs hy hr hck
  go_enter Try.func20, Try.ntmps20
  go_wp2_with fail
  clear hW0 b0 b1 b2 b3
  refine (HCK.out).mono ?_
  rintro e w1 ⟨rfl, hx1⟩
  rw [HQ.out]
  have HX1 := hid hx1
  clear hx1
  by_cases h1 : q = 0
  case neg =>
    have n1 : ((q : Int) != 0) = true := by simpa using h1
    have H1 := hid h1
    obtain ⟨r0, r1, r2, r3, rf⟩ := HR0.out.ext HX1.out
    clear h1
    go_wp2
    refine bodyPost_ret (v := .tuple #[.agg #[.int .u32 0, .slice none 0 0, .slice none 0 0, .slice none 0 0], .int .i64 q]) (by simp [results, Try.results20, go_sem, World.cell?_setCell_same, World.cell?_setCell_other, r0, r1, r2, r3]) rfl ?_
    rw [applyR_bad (by rw [HQ.out]; exact H1.out), HQ.out]
    exact obr_zero (((((HE0.out.trans HX1.out).setCell (by simp) _).setCell (by simp) _).setCell (by simp) _).setCell (by simp) _) rfl
  subst h1
  have HBB := hid (HB0.out.ext HX1.out)
  obtain ⟨b0, b1, b2, b3, bf⟩ := HBB.out
  obtain ⟨z1, z2, z3, z4⟩ := ob_smallN HQ.out
  have HCP := hid (copies5x_any w1 As ns cs o.secs (HS.out.ext HX1.out) (by have := HLS.out; omega) z2)
  have HV : Hid (∀ r ∈ o.rels, relOne o.secs o.syms r = 0) := hid (relsErr_each (obCheck_zero HQ.out).2.2.2.1)
  clear z1 z2 z3 z4 bf
  go_wp2_with fail
  clear b0 b1 b2 b3
  refine (HCP.out).mono ?_
  rintro e w2 ⟨hx2, AS, cS, H, rfl, hsx⟩
  obtain ⟨hiX, hhX⟩ : ∃ hiX, w2.heap.size = hiX := ⟨_, rfl⟩
  rw [hhX] at hsx
  obtain ⟨n1, hn1⟩ : ∃ n1, o.secs.length = n1 := ⟨_, rfl⟩
  rw [hn1] at hsx ⊢
  have HN1 := hid hn1
  have HSX := hid hsx
  have HX2 := hid hx2
  have hcS := hsx.own.sl.cap
  have HHI := hid hhX
  clear hn1 hsx hx2 hhX
  go_wp2
  go_loopw [6] (fun i wr => ∃ j : Nat, j ≤ nr ∧ i = .int .i64 j ∧ Hid (SecsX wr w1.heap.size hiX 46 5 (.slice AS n1 cS) H ((o.rels.take j).foldl (patchS o.syms) o.secs)) ∧ Hid (Ext w1 wr) ∧ Hid (hiX ≤ wr.heap.size)) (fun i _ => nr - (intOf i).toNat)
  case atStart => exact ⟨0, by omega, rfl, HSX, HX2, hid (Nat.le_of_eq HHI.out.symm)⟩
  case round =>
    obtain ⟨j, hj, rfl, HI, HX, HSZ⟩ := hrel
    obtain ⟨t0, t1, t2, t3, tf⟩ := HBB.out.ext HX.out
    by_cases h1 : j < nr
    · have HJ := hid h1
      obtain ⟨r, hkr⟩ : ∃ r, o.rels[j]? = some r := ⟨_, List.getElem?_eq_getElem (by have := HLR.out; omega)⟩
      obtain ⟨b, off, rfl, -, e0, e1, e2, e3, e4⟩ := Sl.rel_at (HR.out.ext (HX1.out.trans HX.out)) hkr
      have hshape : ((o.rels.take j).foldl (patchS o.syms) o.secs).map secKey = o.secs.map secKey := fold_shape _ fun x hx => HV.out x (List.mem_of_mem_take hx)
      have hok := HV.out r (List.mem_of_getElem? hkr)
      rw [← relOne_shape hshape] at hok
      have hsn : (o.rels.take (j + 1)).foldl (patchS o.syms) o.secs = patchS o.syms ((o.rels.take j).foldl (patchS o.syms) o.secs) r := by
        rw [take_snoc' hkr, List.foldl_append]
        rfl
      obtain ⟨L, hL⟩ : ∃ L, (o.rels.take j).foldl (patchS o.syms) o.secs = L := ⟨_, rfl⟩
      rw [hL] at HI hsn hok
      clear hL hshape hkr
      obtain ⟨k, s, f, t, q1, q2, q3, q4, q5, -⟩ := relOne_zero hok
      obtain ⟨N, hN⟩ : ∃ N, relNum o.syms s r = N := ⟨_, rfl⟩
      have hps : patchS o.syms L r = L.set k { s with data := put4 s.data f N } := by
        rw [← hN, patchS, q1, q3]
        simp only [Int.toNat_natCast, q2]
      rw [hps] at hsn
      have HSN := hid hsn
      have hN2 : (relVal r (w32 (s.addr + f)) t.addr).1 = N := by rw [← hN, relNum, q5, q3]; rfl
      have hval := fun W => value7_any W r (w32 (s.addr + f)) t.addr
      obtain ⟨er, hEr⟩ : ∃ er, (relVal r (w32 (s.addr + f)) t.addr).2 = er := ⟨_, rfl⟩
      unfold ValIs at hval
      rw [hN2, hEr] at hval
      obtain ⟨P, hP⟩ : ∃ P, w32 ((s.addr : Int) + f) = P := ⟨_, rfl⟩
      rw [hP] at hval hN2
      obtain ⟨F, hF⟩ : ∃ F, w32 (f : Int) = F := ⟨_, rfl⟩
      have p1 : IntKind.u32.wrap (f : Int) = (F : Int) := by rw [wrap_w32, hF]
      have p2 : IntKind.u32.wrap ((s.addr : Int) + F) = (P : Int) := by rw [wrap_w32, ← hF, w32_addR, hP]
      have HP1 := hid p1
      have HP2 := hid p2
      have hNl : N < 4294967296 := by
        rw [← hN2, relVal]
        split
        · exact w32_lt _
        · split
          · exact w32_lt _
          · show (0 : Nat) < _; omega
      have HVAL := hid hval
      have HNL := hid hNl
      obtain ⟨h, hh⟩ : ∃ h, H[k]? = some h := ⟨_, List.getElem?_eq_getElem (by have := (List.getElem?_eq_some_iff.1 q2).1; have := HI.out.len; omega)⟩
      obtain ⟨g, rfl, hgb⟩ := HI.out.own.at0 (by have := HI.out.own.len; have := (List.getElem?_eq_some_iff.1 hh).1; omega)
      obtain ⟨m1, -⟩ := hdrP.cell HI.out.own hh (i := 1) rfl
      obtain ⟨m2, -⟩ := hdrP.cell HI.out.own hh (i := 2) rfl
      rw [show k * hdrR.size + 1 = k * 5 + 1 from rfl] at m1
      rw [show k * hdrR.size + 2 = k * 5 + 2 from rfl] at m2
      have hhd := HI.out.of k h s hh q2
      have hkn : k < n1 := by have := HI.out.own.len; have := (List.getElem?_eq_some_iff.1 hh).1; omega
      have HHK := hid hh
      have HSK := hid q2
      have hfind := fun (W : World) (hE : Ext w1 W) => find6_any W Ay ny cy o.syms ((HY.out.ext HX1.out).ext hE) r.sym
      rw [q5] at hfind
      have HFIND := hid hfind
      have HFL := hid q4
      have HGB := hid hgb
      obtain ⟨sec, of_, kd, sym, add⟩ := r
      dsimp only at q1 q3 e0 e1 e2 e3 e4 HFIND HVAL
      subst q1 q3
      obtain ⟨nm, ad, hA, hn, hc, wr_, ex⟩ := h
      dsimp only [Hd.dv] at m1 m2 hhd
      obtain ⟨-, rfl, -, -, rfl⟩ := hhd
      have i1 : (0 : Int) ≤ (k : Int) := by omega
      have i2 : (k : Int) < (n1 : Int) := by omega
      clear hsn hps hN hN2 hval hEr hP hF p1 p2 hNl hh q2 hok q5 hfind q4 hkn hgb
      obtain ⟨W1, hW1⟩ : ∃ W1, wr.alloc (.cells #[.int .i64 k, .int .i64 f, .int .i64 kd, .string sym, .int .i32 add] 36) = W1 := ⟨_, rfl⟩
      have hE1 : Ext wr W1 := by rw [← hW1]; exact (Ext.refl wr).alloc _
      have x0 : W1.cell? ⟨wr.heap.size, 0, none⟩ = some (.int .i64 k) := by rw [← hW1]; simp [go_sem]
      have x1 : W1.cell? ⟨wr.heap.size, 1, none⟩ = some (.int .i64 f) := by rw [← hW1]; simp [go_sem]
      have x2 : W1.cell? ⟨wr.heap.size, 2, none⟩ = some (.int .i64 kd) := by rw [← hW1]; simp [go_sem]
      have x3 : W1.cell? ⟨wr.heap.size, 3, none⟩ = some (.string sym) := by rw [← hW1]; simp [go_sem]
      have x4 : W1.cell? ⟨wr.heap.size, 4, none⟩ = some (.int .i32 add) := by rw [← hW1]; simp [go_sem]
      have HXC := hid (And.intro x0 (And.intro x1 (And.intro x2 (And.intro x3 x4))))
      have hM := And.intro (hE1.cell m1) (hE1.cell m2)
      have HM := hid hM
      have t2' := hE1.cell t2
      have HE1 := hid hE1
      clear m1 m2 hM hE1 x0 x1 x2 x4
      go_wp2_with fail
      clear hW1 t0 t1 t2 t3 tf e0 e1 e2 e3 e4
      refine (HFIND.out _ (HX.out.trans HE1.out)).mono ?_
      rintro e w3 ⟨hx3, he⟩
      have he' : e = .returned (.tuple #[.agg #[.string t.name, .int .u32 t.addr, .int .i64 t.kind], .bool true]) := he
      clear he
      obtain rfl := he'
      have HX3 := hid hx3
      clear hx3 x3 t2'
      go_wp2_with fail
      obtain ⟨W4, hW4⟩ : ∃ W4, w3.alloc (.cells #[.string t.name, .int .u32 t.addr, .int .i64 t.kind] 68) = W4 := ⟨_, rfl⟩
      rw [hW4]
      have z1 : W4.cell? ⟨w3.heap.size, 1, none⟩ = some (.int .u32 t.addr) := by rw [← hW4]; simp [go_sem]
      have hE4 : Ext W1 W4 := by rw [← hW4]; exact HX3.out.alloc _
      clear hW4
      have hC := HXC.out
      have x0 := hE4.cell hC.1
      have x1 := hE4.cell hC.2.1
      have x2 := hE4.cell hC.2.2.1
      have x3 := hE4.cell hC.2.2.2.1
      have x4 := hE4.cell hC.2.2.2.2
      have m1 := hE4.cell HM.out.1
      have HE4 := hid hE4
      have p1 := HP1.out
      have p2 := HP2.out
      clear hC hE4
      refine wp_region_held_drew (S := (fun w' => w'.cell? ⟨wr.heap.size, 0, none⟩ = some (.int .i64 k) ∧ w'.cell? ⟨wr.heap.size, 1, none⟩ = some (.int .i64 f) ∧ w'.cell? ⟨wr.heap.size, 2, none⟩ = some (.int .i64 kd) ∧ w'.cell? ⟨wr.heap.size, 3, none⟩ = some (.string sym) ∧ w'.cell? ⟨wr.heap.size, 4, none⟩ = some (.int .i32 add) ∧ w'.cell? ⟨g, k * 5 + 1, none⟩ = some (.int .u32 s.addr) ∧ w'.cell? ⟨w3.heap.size, 1, none⟩ = some (.int .u32 t.addr))) (by kernel_rfl) ⟨x0, x1, x2, x3, x4, m1, z1⟩ (fun hSg1q0 => ?_)
      refine wpAnyH_takeL (i := 0) (v := ?g1qv0) rfl (by kernel_rfl) (by kernel_rfl) (by kernel_rfl) (fun _ _ _ h => h) (Or.inl ⟨by rfl, ?g1qy0⟩) (by assumption) ?g1qr0
      case g1qy0 => first | (intro w hSw; (try dsimp only at hSw); go_simp; done) | (intro w hSw; (try dsimp only at hSw); go_simp; with_reducible rfl)
      case' g1qr0 => try simp only [Act.put, List.setIfInBounds_toArray, List.set_cons_zero, List.set_cons_succ]
      refine wpAnyH_takeL (i := 1) (v := ?g1qv1) rfl (by kernel_rfl) (by kernel_rfl) (by kernel_rfl) (fun _ _ _ h => h) (Or.inl ⟨by rfl, ?g1qy1⟩) (by assumption) ?g1qr1
      case g1qy1 => first | (intro w hSw; (try dsimp only at hSw); go_simp; done) | (intro w hSw; (try dsimp only at hSw); go_simp; with_reducible rfl)
      case' g1qr1 => try simp only [Act.put, List.setIfInBounds_toArray, List.set_cons_zero, List.set_cons_succ]
      refine wpAnyH_takeL (i := 2) (v := ?g1qv2) rfl (by kernel_rfl) (by kernel_rfl) (by kernel_rfl) (fun _ _ _ h => h) (Or.inl ⟨by rfl, ?g1qy2⟩) (by assumption) ?g1qr2
      case g1qy2 => first | (intro w hSw; (try dsimp only at hSw); go_simp; done) | (intro w hSw; (try dsimp only at hSw); go_simp; with_reducible rfl)
      case' g1qr2 => try simp only [Act.put, List.setIfInBounds_toArray, List.set_cons_zero, List.set_cons_succ]
      refine wpAnyH_takeL (i := 3) (v := ?g1qv3) rfl (by kernel_rfl) (by kernel_rfl) (by kernel_rfl) (fun _ _ _ h => h) (Or.inl ⟨by rfl, ?g1qy3⟩) (by assumption) ?g1qr3
      case g1qy3 => first | (intro w hSw; (try dsimp only at hSw); go_simp; done) | (intro w hSw; (try dsimp only at hSw); go_simp; with_reducible rfl)
      case' g1qr3 => try simp only [Act.put, List.setIfInBounds_toArray, List.set_cons_zero, List.set_cons_succ]
      refine wpAnyH_takeL (i := 4) (v := ?g1qv4) rfl (by kernel_rfl) (by kernel_rfl) (by kernel_rfl) (fun _ _ _ h => h) (Or.inl ⟨by rfl, ?g1qy4⟩) (by assumption) ?g1qr4
      case g1qy4 => first | (intro w hSw; (try dsimp only at hSw); go_simp; done) | (intro w hSw; (try dsimp only at hSw); go_simp; with_reducible rfl)
      case' g1qr4 => try simp only [Act.put, List.setIfInBounds_toArray, List.set_cons_zero, List.set_cons_succ]
      refine wpAnyH_takeL (i := 5) (v := ?g1qv5) rfl (by kernel_rfl) (by kernel_rfl) (by kernel_rfl) (fun _ _ _ h => h) (Or.inl ⟨by rfl, ?g1qy5⟩) (by assumption) ?g1qr5
      case g1qy5 => first | (intro w hSw; (try dsimp only at hSw); go_simp; done) | (intro w hSw; (try dsimp only at hSw); go_simp; with_reducible rfl)
      case' g1qr5 => try simp only [Act.put, List.setIfInBounds_toArray, List.set_cons_zero, List.set_cons_succ]
      refine wpAnyH_takeL (i := 6) (v := ?g1qv6) rfl (by kernel_rfl) (by kernel_rfl) (by kernel_rfl) (fun _ _ _ h => h) (Or.inl ⟨by rfl, ?g1qy6⟩) (by assumption) ?g1qr6
      case g1qy6 => first | (intro w hSw; (try dsimp only at hSw); go_simp; done) | (intro w hSw; (try dsimp only at hSw); go_simp; with_reducible rfl)
      case' g1qr6 => try simp only [Act.put, List.setIfInBounds_toArray, List.set_cons_zero, List.set_cons_succ]
      refine wpAnyH_takeL (i := 7) (v := ?g1qv7) rfl (by kernel_rfl) (by kernel_rfl) (by kernel_rfl) (fun _ _ _ h => h) (Or.inl ⟨by rfl, ?g1qy7⟩) (by assumption) ?g1qr7
      case g1qy7 => first | (intro w hSw; (try dsimp only at hSw); go_simp; done) | (intro w hSw; (try dsimp only at hSw); go_simp; with_reducible rfl)
      case' g1qr7 => try simp only [Act.put, List.setIfInBounds_toArray, List.set_cons_zero, List.set_cons_succ]
      refine wpAnyH_takeL (i := 8) (v := ?g1qv8) rfl (by kernel_rfl) (by kernel_rfl) (by kernel_rfl) (fun _ _ _ h => h) (Or.inl ⟨by rfl, ?g1qy8⟩) (by assumption) ?g1qr8
      case g1qy8 => first | (intro w hSw; (try dsimp only at hSw); go_simp; done) | (intro w hSw; (try dsimp only at hSw); go_simp; with_reducible rfl)
      case' g1qr8 => try simp only [Act.put, List.setIfInBounds_toArray, List.set_cons_zero, List.set_cons_succ]
      refine wpAnyH_takeL (i := 9) (v := ?g1qv9) rfl (by kernel_rfl) (by kernel_rfl) (by kernel_rfl) (fun _ _ _ h => h) (Or.inl ⟨by rfl, ?g1qy9⟩) (by assumption) ?g1qr9
      case g1qy9 => first | (intro w hSw; (try dsimp only at hSw); go_simp; done) | (intro w hSw; (try dsimp only at hSw); go_simp; with_reducible rfl)
      case' g1qr9 => try simp only [Act.put, List.setIfInBounds_toArray, List.set_cons_zero, List.set_cons_succ]
      refine wpAnyH_takeL (i := 10) (v := ?g1qv10) rfl (by kernel_rfl) (by kernel_rfl) (by kernel_rfl) (fun _ _ _ h => h) (Or.inl ⟨by rfl, ?g1qy10⟩) (by assumption) ?g1qr10
      case g1qy10 => first | (intro w hSw; (try dsimp only at hSw); go_simp; done) | (intro w hSw; (try dsimp only at hSw); go_simp; with_reducible rfl)
      case' g1qr10 => try simp only [Act.put, List.setIfInBounds_toArray, List.set_cons_zero, List.set_cons_succ]
      refine wpAnyH_takeL (i := 11) (v := ?g1qv11) rfl (by kernel_rfl) (by kernel_rfl) (by kernel_rfl) (fun _ _ _ h => h) (Or.inl ⟨by rfl, ?g1qy11⟩) (by assumption) ?g1qr11
      case g1qy11 => first | (intro w hSw; (try dsimp only at hSw); go_simp; done) | (intro w hSw; (try dsimp only at hSw); go_simp; with_reducible rfl)
      case' g1qr11 => try simp only [Act.put, List.setIfInBounds_toArray, List.set_cons_zero, List.set_cons_succ]
      refine wpAnyH_takeL (i := 12) (v := ?g1qv12) rfl (by kernel_rfl) (by kernel_rfl) (by kernel_rfl) (fun _ _ _ h => h) (Or.inl ⟨by rfl, ?g1qy12⟩) (by assumption) ?g1qr12
      case g1qy12 => first | (intro w hSw; (try dsimp only at hSw); go_simp; done) | (intro w hSw; (try dsimp only at hSw); go_simp; with_reducible rfl)
      case' g1qr12 => try simp only [Act.put, List.setIfInBounds_toArray, List.set_cons_zero, List.set_cons_succ]
      refine wpAnyH_ready (rs := [13]) (by kernel_rfl) (by simp) ?_
      refine AllReadyH.consL rfl (fun K hK => ?_) AllReadyH.nil
      go_simp
      go_at_call 18
      refine (HVAL.out _).mono ?_
      rintro e w5 ⟨rfl, hx5⟩
      have HX5 := hid ((Ext.refl W4).drew.trans hx5)
      clear hx5
      refine hK.out _ _ ⟨HX5.out.cell x0, HX5.out.cell x1, HX5.out.cell x2, HX5.out.cell x3, HX5.out.cell x4, HX5.out.cell m1, HX5.out.cell z1⟩ (fun hSg1q1 => ?_)
      clear hK K
      try simp only [Act.put, List.setIfInBounds_toArray, List.set_cons_zero, List.set_cons_succ]
      refine wpAnyH_takeL (i := 14) (v := ?g1qv14) rfl (by kernel_rfl) (by kernel_rfl) (by kernel_rfl) (fun _ _ _ h => h) (Or.inl ⟨by rfl, ?g1qy14⟩) (by assumption) ?g1qr14
      case g1qy14 => first | (intro w hSw; (try dsimp only at hSw); go_simp; done) | (intro w hSw; (try dsimp only at hSw); go_simp; with_reducible rfl)
      case' g1qr14 => try simp only [Act.put, List.setIfInBounds_toArray, List.set_cons_zero, List.set_cons_succ]
      refine wpAnyH_takeL (i := 15) (v := ?g1qv15) rfl (by kernel_rfl) (by kernel_rfl) (by kernel_rfl) (fun _ _ _ h => h) (Or.inl ⟨by rfl, ?g1qy15⟩) (by assumption) ?g1qr15
      case g1qy15 => first | (intro w hSw; (try dsimp only at hSw); go_simp; done) | (intro w hSw; (try dsimp only at hSw); go_simp; with_reducible rfl)
      case' g1qr15 => try simp only [Act.put, List.setIfInBounds_toArray, List.set_cons_zero, List.set_cons_succ]
      refine wpAnyH_takeL (i := 16) (v := ?g1qv16) rfl (by kernel_rfl) (by kernel_rfl) (by kernel_rfl) (fun _ _ _ h => h) (Or.inl ⟨by rfl, ?g1qy16⟩) (by assumption) ?g1qr16
      case g1qy16 => first | (intro w hSw; (try dsimp only at hSw); go_simp; done) | (intro w hSw; (try dsimp only at hSw); go_simp; with_reducible rfl)
      case' g1qr16 => try simp only [Act.put, List.setIfInBounds_toArray, List.set_cons_zero, List.set_cons_succ]
      refine wpAnyH_takeL (i := 17) (v := ?g1qv17) rfl (by kernel_rfl) (by kernel_rfl) (by kernel_rfl) (fun _ _ _ h => h) (Or.inl ⟨by rfl, ?g1qy17⟩) (by assumption) ?g1qr17
      case g1qy17 => first | (intro w hSw; (try dsimp only at hSw); go_simp; done) | (intro w hSw; (try dsimp only at hSw); go_simp; with_reducible rfl)
      case' g1qr17 => try simp only [Act.put, List.setIfInBounds_toArray, List.set_cons_zero, List.set_cons_succ]
      refine wpAnyH_takeL (i := 18) (v := ?g1qv18) rfl (by kernel_rfl) (by kernel_rfl) (by kernel_rfl) (fun _ _ _ h => h) (Or.inl ⟨by rfl, ?g1qy18⟩) (by assumption) ?g1qr18
      case g1qy18 => first | (intro w hSw; (try dsimp only at hSw); go_simp; done) | (intro w hSw; (try dsimp only at hSw); go_simp; with_reducible rfl)
      case' g1qr18 => try simp only [Act.put, List.setIfInBounds_toArray, List.set_cons_zero, List.set_cons_succ]
      refine wpAnyH_done (by kernel_rfl) ?_ _
      have hdat := HI.out.data k _ s HHK.out HSK.out
      obtain ⟨gd, rfl, hgd⟩ := OwnS.at0 (A := hA) (n := s.data.length) (c := hc) hdat (by have := HFL.out; omega)
      have hgh := HI.out.topd k _ gd HHK.out rfl
      have hbox : gd ≠ wr.heap.size := by have := HSZ.out; omega
      have HBOX := hid hbox
      have HGD := hid hgd
      have hce := And.intro (HX5.out.cell x0) (HX5.out.cell x1)
      have HCE := hid hce
      have hX15 : Ext wr w5 := HE1.out.trans (HE4.out.trans HX5.out)
      have HI5 := hid (HI.out.ext hX15)
      have HX15 := hid (HX.out.trans hX15)
      have HSZ5 : Hid (hiX ≤ w5.heap.size) := hid (Nat.le_trans HSZ.out hX15.size)
      have hdl : s.data.length ≤ hc ∧ hc ≤ 9223372036854775807 := hdat.sl.cap
      clear hdat hgh hbox hgd hce hX15 x0 x1 x2 x3 x4 m1 z1 p1 p2
      obtain ⟨V, hV⟩ : ∃ V, V = wr := ⟨_, rfl⟩
      obtain rfl := hV
      go_wp2
      go_loopw [12] (fun i wr => ∃ q : Nat, q ≤ 4 ∧ i = .int .i64 q ∧ Hid (SecsX wr w1.heap.size hiX 46 5 (.slice (some ⟨g, 0, none⟩) n1 cS) H (L.set k { s with data := pw s.data f N q })) ∧ Hid (Ext w1 wr) ∧ Hid (hiX ≤ wr.heap.size) ∧ Hid (wr.cell? ⟨V.heap.size, 0, none⟩ = some (.int .i64 k) ∧ wr.cell? ⟨V.heap.size, 1, none⟩ = some (.int .i64 f))) (fun i _ => 4 - (intOf i).toNat)
      case atStart =>
        refine ⟨0, by omega, rfl, hid ?_, HX15, HSZ5, HCE⟩
        have e : L.set k { s with data := pw s.data f N 0 } = L := by
          have h0 := HSK.out
          obtain ⟨hlt, hgt⟩ := List.getElem?_eq_some_iff.1 h0
          show L.set k s = L
          rw [← hgt]
          exact List.set_getElem_self hlt
        rw [e]
        exact HI5.out
      case round =>
        obtain ⟨q, hq4, rfl, HQI, HQX, HQS, HQC⟩ := hrel
        by_cases h2 : q < 4
        · obtain ⟨x0, x1⟩ := HQC.out
          obtain ⟨m2, -⟩ := hdrP.cell HQI.out.own HHK.out (i := 2) rfl
          rw [show k * hdrR.size + 2 = k * 5 + 2 from rfl] at m2
          dsimp only [Hd.dv] at m2
          have hNl := HNL.out
          have hfl := HFL.out
          obtain rfl | rfl | rfl | rfl : q = 0 ∨ q = 1 ∨ q = 2 ∨ q = 3 := by omega
          ·
            obtain ⟨x, hx⟩ : ∃ x : Nat, N % 256 = x := ⟨_, rfl⟩
            have ex : (N : Int) % 256 = (x : Int) := by omega
            have hxl : x < 256 := by omega
            have exm : (x : Int) % 256 = (x : Int) := by omega
            have i3 : (0 : Int) ≤ (f : Int) + 0 := by omega
            have i4 : (f : Int) + 0 < (s.data.length : Int) := by omega
            have ef : IntKind.i64.wrap ((f : Int) + 0) = (f : Int) + 0 := IntWalk.i64_in _ (by omega)
            have ef0 : IntKind.i64.wrap (f : Int) = (f : Int) := IntWalk.i64_in _ (by omega)
            have et : ((f : Int) + 0).toNat = f := by omega
            have i5 : (0 : Int) ≤ (f : Int) := by omega
            have i6 : (f : Int) < (s.data.length : Int) := by omega
            have HXV := hid hx
            have HXL := hid hxl
            have hkl : k < L.length := (List.getElem?_eq_some_iff.1 HSK.out).1
            have hsx5 := SecsX.byte (HQI.out.ext (Ext.refl wr).drew) (g := gd) (c := hc) (f := f) (b := x) HHK.out (List.getElem?_set_self hkl) (by show Value.slice _ _ _ = Value.slice _ _ _; rw [pw_len]) hxl
            rw [List.set_set] at hsx5
            have HSX5 : Hid (SecsX (wr.drew.setCell ⟨gd, f, none⟩ (.int .u8 x)) w1.heap.size hiX 46 5 (.slice (some ⟨g, 0, none⟩) n1 cS) H (L.set k { s with data := pw s.data f N (0 + 1) })) := hid (by rw [show pw s.data f N (0 + 1) = (pw s.data f N 0).set (f) x by rw [← hx]; rfl]; exact hsx5)
            have HX5' : Hid (Ext w1 (wr.drew.setCell ⟨gd, f, none⟩ (.int .u8 x))) := hid (by exact HQX.out.drew.setCell HGD.out.1 _)
            have HSZ5' : Hid (hiX ≤ (wr.drew.setCell ⟨gd, f, none⟩ (.int .u8 x)).heap.size) := hid (by simpa using HQS.out)
            have HC5 : Hid ((wr.drew.setCell ⟨gd, f, none⟩ (.int .u8 x)).cell? ⟨V.heap.size, 0, none⟩ = some (.int .i64 k) ∧ (wr.drew.setCell ⟨gd, f, none⟩ (.int .u8 x)).cell? ⟨V.heap.size, 1, none⟩ = some (.int .i64 f)) := hid (by
              have hb := HBOX.out
              exact ⟨(World.cell?_setCell_other _ _ _ _ (by intro e; exact hb (congrArg Addr.block e))).trans x0, (World.cell?_setCell_other _ _ _ _ (by intro e; exact hb (congrArg Addr.block e))).trans x1⟩)
            have hrow := HQI.out.data k _ _ HHK.out (List.getElem?_set_self hkl)
            dsimp only [Hd.dv] at hrow
            rw [← pw_len s.data f N 0] at hrow
            obtain ⟨y, hy⟩ : ∃ y, (pw s.data f N 0)[f]? = some y := ⟨_, List.getElem?_eq_getElem (by rw [pw_len]; omega)⟩
            obtain ⟨d1, d2⟩ := OwnS.num_cell hrow hy
            have d1d : wr.drew.cell? ⟨gd, f, none⟩ = some (.int .u8 y) := d1
            have d2d : wr.drew.frozen? ⟨gd, f, none⟩ = false := d2
            clear hy hrow d1 d2
            clear hx hkl hsx5
            go_wp2_with fail
            refine wp_region_split 17 (by kernel_rfl) rfl rfl (by kernel_rfl) (fun w' => w'.cell? ⟨V.heap.size, 0, none⟩ = some (.int .i64 k) ∧ w'.cell? ⟨V.heap.size, 1, none⟩ = some (.int .i64 f) ∧ w'.cell? ⟨g, k * 5 + 2, none⟩ = some (.slice (some ⟨gd, 0, none⟩) s.data.length hc)) ⟨x0, x1, m2⟩ (fun hSg2q0 => ?_)
            refine wpAnyH_takeL (i := 0) (v := ?g2qv0) rfl (by kernel_rfl) (by kernel_rfl) (by kernel_rfl) (fun _ _ _ h => h) (Or.inl ⟨by rfl, ?g2qy0⟩) (by assumption) ?g2qr0
            case g2qy0 => first | (intro w hSw; (try dsimp only at hSw); go_simp; done) | (intro w hSw; (try dsimp only at hSw); go_simp; with_reducible rfl)
            case' g2qr0 => try simp only [Act.put, List.setIfInBounds_toArray, List.set_cons_zero, List.set_cons_succ]
            refine wpAnyH_takeL (i := 1) (v := ?g2qv1) rfl (by kernel_rfl) (by kernel_rfl) (by kernel_rfl) (fun _ _ _ h => h) (Or.inl ⟨by rfl, ?g2qy1⟩) (by assumption) ?g2qr1
            case g2qy1 => first | (intro w hSw; (try dsimp only at hSw); go_simp; done) | (intro w hSw; (try dsimp only at hSw); go_simp; with_reducible rfl)
            case' g2qr1 => try simp only [Act.put, List.setIfInBounds_toArray, List.set_cons_zero, List.set_cons_succ]
            refine wpAnyH_takeL (i := 2) (v := ?g2qv2) rfl (by kernel_rfl) (by kernel_rfl) (by kernel_rfl) (fun _ _ _ h => h) (Or.inl ⟨by rfl, ?g2qy2⟩) (by assumption) ?g2qr2
            case g2qy2 => first | (intro w hSw; (try dsimp only at hSw); go_simp; done) | (intro w hSw; (try dsimp only at hSw); go_simp; with_reducible rfl)
            case' g2qr2 => try simp only [Act.put, List.setIfInBounds_toArray, List.set_cons_zero, List.set_cons_succ]
            refine wpAnyH_takeL (i := 3) (v := ?g2qv3) rfl (by kernel_rfl) (by kernel_rfl) (by kernel_rfl) (fun _ _ _ h => h) (Or.inl ⟨by rfl, ?g2qy3⟩) (by assumption) ?g2qr3
            case g2qy3 => first | (intro w hSw; (try dsimp only at hSw); go_simp; done) | (intro w hSw; (try dsimp only at hSw); go_simp; with_reducible rfl)
            case' g2qr3 => try simp only [Act.put, List.setIfInBounds_toArray, List.set_cons_zero, List.set_cons_succ]
            refine wpAnyH_takeL (i := 4) (v := ?g2qv4) rfl (by kernel_rfl) (by kernel_rfl) (by kernel_rfl) (fun _ _ _ h => h) (Or.inl ⟨by rfl, ?g2qy4⟩) (by assumption) ?g2qr4
            case g2qy4 => first | (intro w hSw; (try dsimp only at hSw); go_simp; done) | (intro w hSw; (try dsimp only at hSw); go_simp; with_reducible rfl)
            case' g2qr4 => try simp only [Act.put, List.setIfInBounds_toArray, List.set_cons_zero, List.set_cons_succ]
            refine wpAnyH_takeL (i := 5) (v := ?g2qv5) rfl (by kernel_rfl) (by kernel_rfl) (by kernel_rfl) (fun _ _ _ h => h) (Or.inl ⟨by rfl, ?g2qy5⟩) (by assumption) ?g2qr5
            case g2qy5 => first | (intro w hSw; (try dsimp only at hSw); go_simp; done) | (intro w hSw; (try dsimp only at hSw); go_simp; with_reducible rfl)
            case' g2qr5 => try simp only [Act.put, List.setIfInBounds_toArray, List.set_cons_zero, List.set_cons_succ]
            refine wpAnyH_takeL (i := 6) (v := ?g2qv6) rfl (by kernel_rfl) (by kernel_rfl) (by kernel_rfl) (fun _ _ _ h => h) (Or.inl ⟨by rfl, ?g2qy6⟩) (by assumption) ?g2qr6
            case g2qy6 => first | (intro w hSw; (try dsimp only at hSw); go_simp; done) | (intro w hSw; (try dsimp only at hSw); go_simp; with_reducible rfl)
            case' g2qr6 => try simp only [Act.put, List.setIfInBounds_toArray, List.set_cons_zero, List.set_cons_succ]
            refine wpAnyH_takeL (i := 7) (v := ?g2qv7) rfl (by kernel_rfl) (by kernel_rfl) (by kernel_rfl) (fun _ _ _ h => h) (Or.inl ⟨by rfl, ?g2qy7⟩) (by assumption) ?g2qr7
            case g2qy7 => first | (intro w hSw; (try dsimp only at hSw); go_simp; done) | (intro w hSw; (try dsimp only at hSw); go_simp; with_reducible rfl)
            case' g2qr7 => try simp only [Act.put, List.setIfInBounds_toArray, List.set_cons_zero, List.set_cons_succ]
            refine wpAnyH_takeL (i := 8) (v := ?g2qv8) rfl (by kernel_rfl) (by kernel_rfl) (by kernel_rfl) (fun _ _ _ h => h) (Or.inl ⟨by rfl, ?g2qy8⟩) (by assumption) ?g2qr8
            case g2qy8 => first | (intro w hSw; (try dsimp only at hSw); go_simp; done) | (intro w hSw; (try dsimp only at hSw); go_simp; with_reducible rfl)
            case' g2qr8 => try simp only [Act.put, List.setIfInBounds_toArray, List.set_cons_zero, List.set_cons_succ]
            refine wpAnyH_takeL (i := 9) (v := ?g2qv9) rfl (by kernel_rfl) (by kernel_rfl) (by kernel_rfl) (fun _ _ _ h => h) (Or.inl ⟨by rfl, ?g2qy9⟩) (by assumption) ?g2qr9
            case g2qy9 => first | (intro w hSw; (try dsimp only at hSw); go_simp; done) | (intro w hSw; (try dsimp only at hSw); go_simp; with_reducible rfl)
            case' g2qr9 => try simp only [Act.put, List.setIfInBounds_toArray, List.set_cons_zero, List.set_cons_succ]
            refine wpAnyH_takeL (i := 10) (v := ?g2qv10) rfl (by kernel_rfl) (by kernel_rfl) (by kernel_rfl) (fun _ _ _ h => h) (Or.inl ⟨by rfl, ?g2qy10⟩) (by assumption) ?g2qr10
            case g2qy10 => first | (intro w hSw; (try dsimp only at hSw); go_simp; done) | (intro w hSw; (try dsimp only at hSw); go_simp; with_reducible rfl)
            case' g2qr10 => try simp only [Act.put, List.setIfInBounds_toArray, List.set_cons_zero, List.set_cons_succ]
            refine wpAnyH_takeL (i := 11) (v := ?g2qv11) rfl (by kernel_rfl) (by kernel_rfl) (by kernel_rfl) (fun _ _ _ h => h) (Or.inl ⟨by rfl, ?g2qy11⟩) (by assumption) ?g2qr11
            case g2qy11 => first | (intro w hSw; (try dsimp only at hSw); go_simp; done) | (intro w hSw; (try dsimp only at hSw); go_simp; with_reducible rfl)
            case' g2qr11 => try simp only [Act.put, List.setIfInBounds_toArray, List.set_cons_zero, List.set_cons_succ]
            refine wpAnyH_takeL (i := 12) (v := ?g2qv12) rfl (by kernel_rfl) (by kernel_rfl) (by kernel_rfl) (fun _ _ _ h => h) (Or.inl ⟨by rfl, ?g2qy12⟩) (by assumption) ?g2qr12
            case g2qy12 => first | (intro w hSw; (try dsimp only at hSw); go_simp; done) | (intro w hSw; (try dsimp only at hSw); go_simp; with_reducible rfl)
            case' g2qr12 => try simp only [Act.put, List.setIfInBounds_toArray, List.set_cons_zero, List.set_cons_succ]
            refine wpAnyH_takeL (i := 13) (v := ?g2qv13) rfl (by kernel_rfl) (by kernel_rfl) (by kernel_rfl) (fun _ _ _ h => h) (Or.inl ⟨by rfl, ?g2qy13⟩) (by assumption) ?g2qr13
            case g2qy13 => first | (intro w hSw; (try dsimp only at hSw); go_simp; done) | (intro w hSw; (try dsimp only at hSw); go_simp; with_reducible rfl)
            case' g2qr13 => try simp only [Act.put, List.setIfInBounds_toArray, List.set_cons_zero, List.set_cons_succ]
            refine wpAnyH_takeL (i := 14) (v := ?g2qv14) rfl (by kernel_rfl) (by kernel_rfl) (by kernel_rfl) (fun _ _ _ h => h) (Or.inl ⟨by rfl, ?g2qy14⟩) (by assumption) ?g2qr14
            case g2qy14 => first | (intro w hSw; (try dsimp only at hSw); go_simp; done) | (intro w hSw; (try dsimp only at hSw); go_simp; with_reducible rfl)
            case' g2qr14 => try simp only [Act.put, List.setIfInBounds_toArray, List.set_cons_zero, List.set_cons_succ]
            refine wpAnyH_takeL (i := 15) (v := ?g2qv15) rfl (by kernel_rfl) (by kernel_rfl) (by kernel_rfl) (fun _ _ _ h => h) (Or.inl ⟨by rfl, ?g2qy15⟩) (by assumption) ?g2qr15
            case g2qy15 => first | (intro w hSw; (try dsimp only at hSw); go_simp; done) | (intro w hSw; (try dsimp only at hSw); go_simp; with_reducible rfl)
            case' g2qr15 => try simp only [Act.put, List.setIfInBounds_toArray, List.set_cons_zero, List.set_cons_succ]
            refine wpAnyH_takeL (i := 16) (v := ?g2qv16) rfl (by kernel_rfl) (by kernel_rfl) (by kernel_rfl) (fun _ _ _ h => h) (Or.inl ⟨by rfl, ?g2qy16⟩) (by assumption) ?g2qr16
            case g2qy16 => first | (intro w hSw; (try dsimp only at hSw); go_simp; done) | (intro w hSw; (try dsimp only at hSw); go_simp; with_reducible rfl)
            case' g2qr16 => try simp only [Act.put, List.setIfInBounds_toArray, List.set_cons_zero, List.set_cons_succ]
            refine wpAnyH_done (by kernel_rfl) ?_ _
            change wpList _ _ _ _ _ _
            clear x0 x1 m2
            go_wp2
            first
              | go_roundw
              | refine ⟨?rel, ?measure⟩
            case rel => exact ⟨0 + 1, by omega, by first | rfl | go_num, HSX5, HX5', HSZ5', HC5⟩
            case measure => simp [intOf]
          ·
            obtain ⟨x, hx⟩ : ∃ x : Nat, N / 256 % 256 = x := ⟨_, rfl⟩
            have ex : (N : Int) / 256 % 256 = (x : Int) := by omega
            have hxl : x < 256 := by omega
            have exm : (x : Int) % 256 = (x : Int) := by omega
            have i3 : (0 : Int) ≤ (f : Int) + 1 := by omega
            have i4 : (f : Int) + 1 < (s.data.length : Int) := by omega
            have ef : IntKind.i64.wrap ((f : Int) + 1) = (f : Int) + 1 := IntWalk.i64_in _ (by omega)
            have ef0 : IntKind.i64.wrap (f : Int) = (f : Int) := IntWalk.i64_in _ (by omega)
            have et : ((f : Int) + 1).toNat = f + 1 := by omega
            have i5 : (0 : Int) ≤ (f : Int) := by omega
            have i6 : (f : Int) < (s.data.length : Int) := by omega
            have HXV := hid hx
            have HXL := hid hxl
            have hkl : k < L.length := (List.getElem?_eq_some_iff.1 HSK.out).1
            have hsx5 := SecsX.byte (HQI.out.ext (Ext.refl wr).drew) (g := gd) (c := hc) (f := f + 1) (b := x) HHK.out (List.getElem?_set_self hkl) (by show Value.slice _ _ _ = Value.slice _ _ _; rw [pw_len]) hxl
            rw [List.set_set] at hsx5
            have HSX5 : Hid (SecsX (wr.drew.setCell ⟨gd, f + 1, none⟩ (.int .u8 x)) w1.heap.size hiX 46 5 (.slice (some ⟨g, 0, none⟩) n1 cS) H (L.set k { s with data := pw s.data f N (1 + 1) })) := hid (by rw [show pw s.data f N (1 + 1) = (pw s.data f N 1).set (f + 1) x by rw [← hx]; rfl]; exact hsx5)
            have HX5' : Hid (Ext w1 (wr.drew.setCell ⟨gd, f + 1, none⟩ (.int .u8 x))) := hid (by exact HQX.out.drew.setCell HGD.out.1 _)
            have HSZ5' : Hid (hiX ≤ (wr.drew.setCell ⟨gd, f + 1, none⟩ (.int .u8 x)).heap.size) := hid (by simpa using HQS.out)
            have HC5 : Hid ((wr.drew.setCell ⟨gd, f + 1, none⟩ (.int .u8 x)).cell? ⟨V.heap.size, 0, none⟩ = some (.int .i64 k) ∧ (wr.drew.setCell ⟨gd, f + 1, none⟩ (.int .u8 x)).cell? ⟨V.heap.size, 1, none⟩ = some (.int .i64 f)) := hid (by
              have hb := HBOX.out
              exact ⟨(World.cell?_setCell_other _ _ _ _ (by intro e; exact hb (congrArg Addr.block e))).trans x0, (World.cell?_setCell_other _ _ _ _ (by intro e; exact hb (congrArg Addr.block e))).trans x1⟩)
            have hrow := HQI.out.data k _ _ HHK.out (List.getElem?_set_self hkl)
            dsimp only [Hd.dv] at hrow
            rw [← pw_len s.data f N 1] at hrow
            obtain ⟨y, hy⟩ : ∃ y, (pw s.data f N 1)[f + 1]? = some y := ⟨_, List.getElem?_eq_getElem (by rw [pw_len]; omega)⟩
            obtain ⟨d1, d2⟩ := OwnS.num_cell hrow hy
            have d1d : wr.drew.cell? ⟨gd, f + 1, none⟩ = some (.int .u8 y) := d1
            have d2d : wr.drew.frozen? ⟨gd, f + 1, none⟩ = false := d2
            clear hy hrow d1 d2
            clear hx hkl hsx5
            go_wp2_with fail
            refine wp_region_split 17 (by kernel_rfl) rfl rfl (by kernel_rfl) (fun w' => w'.cell? ⟨V.heap.size, 0, none⟩ = some (.int .i64 k) ∧ w'.cell? ⟨V.heap.size, 1, none⟩ = some (.int .i64 f) ∧ w'.cell? ⟨g, k * 5 + 2, none⟩ = some (.slice (some ⟨gd, 0, none⟩) s.data.length hc)) ⟨x0, x1, m2⟩ (fun hSg3q0 => ?_)
            refine wpAnyH_takeL (i := 0) (v := ?g3qv0) rfl (by kernel_rfl) (by kernel_rfl) (by kernel_rfl) (fun _ _ _ h => h) (Or.inl ⟨by rfl, ?g3qy0⟩) (by assumption) ?g3qr0
            case g3qy0 => first | (intro w hSw; (try dsimp only at hSw); go_simp; done) | (intro w hSw; (try dsimp only at hSw); go_simp; with_reducible rfl)
            case' g3qr0 => try simp only [Act.put, List.setIfInBounds_toArray, List.set_cons_zero, List.set_cons_succ]
            refine wpAnyH_takeL (i := 1) (v := ?g3qv1) rfl (by kernel_rfl) (by kernel_rfl) (by kernel_rfl) (fun _ _ _ h => h) (Or.inl ⟨by rfl, ?g3qy1⟩) (by assumption) ?g3qr1
            case g3qy1 => first | (intro w hSw; (try dsimp only at hSw); go_simp; done) | (intro w hSw; (try dsimp only at hSw); go_simp; with_reducible rfl)
            case' g3qr1 => try simp only [Act.put, List.setIfInBounds_toArray, List.set_cons_zero, List.set_cons_succ]
            refine wpAnyH_takeL (i := 2) (v := ?g3qv2) rfl (by kernel_rfl) (by kernel_rfl) (by kernel_rfl) (fun _ _ _ h => h) (Or.inl ⟨by rfl, ?g3qy2⟩) (by assumption) ?g3qr2
            case g3qy2 => first | (intro w hSw; (try dsimp only at hSw); go_simp; done) | (intro w hSw; (try dsimp only at hSw); go_simp; with_reducible rfl)
            case' g3qr2 => try simp only [Act.put, List.setIfInBounds_toArray, List.set_cons_zero, List.set_cons_succ]
            refine wpAnyH_takeL (i := 3) (v := ?g3qv3) rfl (by kernel_rfl) (by kernel_rfl) (by kernel_rfl) (fun _ _ _ h => h) (Or.inl ⟨by rfl, ?g3qy3⟩) (by assumption) ?g3qr3
            case g3qy3 => first | (intro w hSw; (try dsimp only at hSw); go_simp; done) | (intro w hSw; (try dsimp only at hSw); go_simp; with_reducible rfl)
            case' g3qr3 => try simp only [Act.put, List.setIfInBounds_toArray, List.set_cons_zero, List.set_cons_succ]
            refine wpAnyH_takeL (i := 4) (v := ?g3qv4) rfl (by kernel_rfl) (by kernel_rfl) (by kernel_rfl) (fun _ _ _ h => h) (Or.inl ⟨by rfl, ?g3qy4⟩) (by assumption) ?g3qr4
            case g3qy4 => first | (intro w hSw; (try dsimp only at hSw); go_simp; done) | (intro w hSw; (try dsimp only at hSw); go_simp; with_reducible rfl)
            case' g3qr4 => try simp only [Act.put, List.setIfInBounds_toArray, List.set_cons_zero, List.set_cons_succ]
            refine wpAnyH_takeL (i := 5) (v := ?g3qv5) rfl (by kernel_rfl) (by kernel_rfl) (by kernel_rfl) (fun _ _ _ h => h) (Or.inl ⟨by rfl, ?g3qy5⟩) (by assumption) ?g3qr5
            case g3qy5 => first | (intro w hSw; (try dsimp only at hSw); go_simp; done) | (intro w hSw; (try dsimp only at hSw); go_simp; with_reducible rfl)
            case' g3qr5 => try simp only [Act.put, List.setIfInBounds_toArray, List.set_cons_zero, List.set_cons_succ]
            refine wpAnyH_takeL (i := 6) (v := ?g3qv6) rfl (by kernel_rfl) (by kernel_rfl) (by kernel_rfl) (fun _ _ _ h => h) (Or.inl ⟨by rfl, ?g3qy6⟩) (by assumption) ?g3qr6
            case g3qy6 => first | (intro w hSw; (try dsimp only at hSw); go_simp; done) | (intro w hSw; (try dsimp only at hSw); go_simp; with_reducible rfl)
            case' g3qr6 => try simp only [Act.put, List.setIfInBounds_toArray, List.set_cons_zero, List.set_cons_succ]
            refine wpAnyH_takeL (i := 7) (v := ?g3qv7) rfl (by kernel_rfl) (by kernel_rfl) (by kernel_rfl) (fun _ _ _ h => h) (Or.inl ⟨by rfl, ?g3qy7⟩) (by assumption) ?g3qr7
            case g3qy7 => first | (intro w hSw; (try dsimp only at hSw); go_simp; done) | (intro w hSw; (try dsimp only at hSw); go_simp; with_reducible rfl)
            case' g3qr7 => try simp only [Act.put, List.setIfInBounds_toArray, List.set_cons_zero, List.set_cons_succ]
            refine wpAnyH_takeL (i := 8) (v := ?g3qv8) rfl (by kernel_rfl) (by kernel_rfl) (by kernel_rfl) (fun _ _ _ h => h) (Or.inl ⟨by rfl, ?g3qy8⟩) (by assumption) ?g3qr8
            case g3qy8 => first | (intro w hSw; (try dsimp only at hSw); go_simp; done) | (intro w hSw; (try dsimp only at hSw); go_simp; with_reducible rfl)
            case' g3qr8 => try simp only [Act.put, List.setIfInBounds_toArray, List.set_cons_zero, List.set_cons_succ]
            refine wpAnyH_takeL (i := 9) (v := ?g3qv9) rfl (by kernel_rfl) (by kernel_rfl) (by kernel_rfl) (fun _ _ _ h => h) (Or.inl ⟨by rfl, ?g3qy9⟩) (by assumption) ?g3qr9
            case g3qy9 => first | (intro w hSw; (try dsimp only at hSw); go_simp; done) | (intro w hSw; (try dsimp only at hSw); go_simp; with_reducible rfl)
            case' g3qr9 => try simp only [Act.put, List.setIfInBounds_toArray, List.set_cons_zero, List.set_cons_succ]
            refine wpAnyH_takeL (i := 10) (v := ?g3qv10) rfl (by kernel_rfl) (by kernel_rfl) (by kernel_rfl) (fun _ _ _ h => h) (Or.inl ⟨by rfl, ?g3qy10⟩) (by assumption) ?g3qr10
            case g3qy10 => first | (intro w hSw; (try dsimp only at hSw); go_simp; done) | (intro w hSw; (try dsimp only at hSw); go_simp; with_reducible rfl)
            case' g3qr10 => try simp only [Act.put, List.setIfInBounds_toArray, List.set_cons_zero, List.set_cons_succ]
            refine wpAnyH_takeL (i := 11) (v := ?g3qv11) rfl (by kernel_rfl) (by kernel_rfl) (by kernel_rfl) (fun _ _ _ h => h) (Or.inl ⟨by rfl, ?g3qy11⟩) (by assumption) ?g3qr11
            case g3qy11 => first | (intro w hSw; (try dsimp only at hSw); go_simp; done) | (intro w hSw; (try dsimp only at hSw); go_simp; with_reducible rfl)
            case' g3qr11 => try simp only [Act.put, List.setIfInBounds_toArray, List.set_cons_zero, List.set_cons_succ]
            refine wpAnyH_takeL (i := 12) (v := ?g3qv12) rfl (by kernel_rfl) (by kernel_rfl) (by kernel_rfl) (fun _ _ _ h => h) (Or.inl ⟨by rfl, ?g3qy12⟩) (by assumption) ?g3qr12
            case g3qy12 => first | (intro w hSw; (try dsimp only at hSw); go_simp; done) | (intro w hSw; (try dsimp only at hSw); go_simp; with_reducible rfl)
            case' g3qr12 => try simp only [Act.put, List.setIfInBounds_toArray, List.set_cons_zero, List.set_cons_succ]
            refine wpAnyH_takeL (i := 13) (v := ?g3qv13) rfl (by kernel_rfl) (by kernel_rfl) (by kernel_rfl) (fun _ _ _ h => h) (Or.inl ⟨by rfl, ?g3qy13⟩) (by assumption) ?g3qr13
            case g3qy13 => first | (intro w hSw; (try dsimp only at hSw); go_simp; done) | (intro w hSw; (try dsimp only at hSw); go_simp; with_reducible rfl)
            case' g3qr13 => try simp only [Act.put, List.setIfInBounds_toArray, List.set_cons_zero, List.set_cons_succ]
            refine wpAnyH_takeL (i := 14) (v := ?g3qv14) rfl (by kernel_rfl) (by kernel_rfl) (by kernel_rfl) (fun _ _ _ h => h) (Or.inl ⟨by rfl, ?g3qy14⟩) (by assumption) ?g3qr14
            case g3qy14 => first | (intro w hSw; (try dsimp only at hSw); go_simp; done) | (intro w hSw; (try dsimp only at hSw); go_simp; with_reducible rfl)
            case' g3qr14 => try simp only [Act.put, List.setIfInBounds_toArray, List.set_cons_zero, List.set_cons_succ]
            refine wpAnyH_takeL (i := 15) (v := ?g3qv15) rfl (by kernel_rfl) (by kernel_rfl) (by kernel_rfl) (fun _ _ _ h => h) (Or.inl ⟨by rfl, ?g3qy15⟩) (by assumption) ?g3qr15
            case g3qy15 => first | (intro w hSw; (try dsimp only at hSw); go_simp; done) | (intro w hSw; (try dsimp only at hSw); go_simp; with_reducible rfl)
            case' g3qr15 => try simp only [Act.put, List.setIfInBounds_toArray, List.set_cons_zero, List.set_cons_succ]
            refine wpAnyH_takeL (i := 16) (v := ?g3qv16) rfl (by kernel_rfl) (by kernel_rfl) (by kernel_rfl) (fun _ _ _ h => h) (Or.inl ⟨by rfl, ?g3qy16⟩) (by assumption) ?g3qr16
            case g3qy16 => first | (intro w hSw; (try dsimp only at hSw); go_simp; done) | (intro w hSw; (try dsimp only at hSw); go_simp; with_reducible rfl)
            case' g3qr16 => try simp only [Act.put, List.setIfInBounds_toArray, List.set_cons_zero, List.set_cons_succ]
            refine wpAnyH_done (by kernel_rfl) ?_ _
            change wpList _ _ _ _ _ _
            clear x0 x1 m2
            go_wp2
            first
              | go_roundw
              | refine ⟨?rel, ?measure⟩
            case rel => exact ⟨1 + 1, by omega, by first | rfl | go_num, HSX5, HX5', HSZ5', HC5⟩
            case measure => simp [intOf]
          ·
            obtain ⟨x, hx⟩ : ∃ x : Nat, N / 65536 % 256 = x := ⟨_, rfl⟩
            have ex : (N : Int) / 65536 % 256 = (x : Int) := by omega
            have hxl : x < 256 := by omega
            have exm : (x : Int) % 256 = (x : Int) := by omega
            have i3 : (0 : Int) ≤ (f : Int) + 2 := by omega
            have i4 : (f : Int) + 2 < (s.data.length : Int) := by omega
            have ef : IntKind.i64.wrap ((f : Int) + 2) = (f : Int) + 2 := IntWalk.i64_in _ (by omega)
            have ef0 : IntKind.i64.wrap (f : Int) = (f : Int) := IntWalk.i64_in _ (by omega)
            have et : ((f : Int) + 2).toNat = f + 2 := by omega
            have i5 : (0 : Int) ≤ (f : Int) := by omega
            have i6 : (f : Int) < (s.data.length : Int) := by omega
            have HXV := hid hx
            have HXL := hid hxl
            have hkl : k < L.length := (List.getElem?_eq_some_iff.1 HSK.out).1
            have hsx5 := SecsX.byte (HQI.out.ext (Ext.refl wr).drew) (g := gd) (c := hc) (f := f + 2) (b := x) HHK.out (List.getElem?_set_self hkl) (by show Value.slice _ _ _ = Value.slice _ _ _; rw [pw_len]) hxl
            rw [List.set_set] at hsx5
            have HSX5 : Hid (SecsX (wr.drew.setCell ⟨gd, f + 2, none⟩ (.int .u8 x)) w1.heap.size hiX 46 5 (.slice (some ⟨g, 0, none⟩) n1 cS) H (L.set k { s with data := pw s.data f N (2 + 1) })) := hid (by rw [show pw s.data f N (2 + 1) = (pw s.data f N 2).set (f + 2) x by rw [← hx]; rfl]; exact hsx5)
            have HX5' : Hid (Ext w1 (wr.drew.setCell ⟨gd, f + 2, none⟩ (.int .u8 x))) := hid (by exact HQX.out.drew.setCell HGD.out.1 _)
            have HSZ5' : Hid (hiX ≤ (wr.drew.setCell ⟨gd, f + 2, none⟩ (.int .u8 x)).heap.size) := hid (by simpa using HQS.out)
            have HC5 : Hid ((wr.drew.setCell ⟨gd, f + 2, none⟩ (.int .u8 x)).cell? ⟨V.heap.size, 0, none⟩ = some (.int .i64 k) ∧ (wr.drew.setCell ⟨gd, f + 2, none⟩ (.int .u8 x)).cell? ⟨V.heap.size, 1, none⟩ = some (.int .i64 f)) := hid (by
              have hb := HBOX.out
              exact ⟨(World.cell?_setCell_other _ _ _ _ (by intro e; exact hb (congrArg Addr.block e))).trans x0, (World.cell?_setCell_other _ _ _ _ (by intro e; exact hb (congrArg Addr.block e))).trans x1⟩)
            have hrow := HQI.out.data k _ _ HHK.out (List.getElem?_set_self hkl)
            dsimp only [Hd.dv] at hrow
            rw [← pw_len s.data f N 2] at hrow
            obtain ⟨y, hy⟩ : ∃ y, (pw s.data f N 2)[f + 2]? = some y := ⟨_, List.getElem?_eq_getElem (by rw [pw_len]; omega)⟩
            obtain ⟨d1, d2⟩ := OwnS.num_cell hrow hy
            have d1d : wr.drew.cell? ⟨gd, f + 2, none⟩ = some (.int .u8 y) := d1
            have d2d : wr.drew.frozen? ⟨gd, f + 2, none⟩ = false := d2
            clear hy hrow d1 d2
            clear hx hkl hsx5
            go_wp2_with fail
            refine wp_region_split 17 (by kernel_rfl) rfl rfl (by kernel_rfl) (fun w' => w'.cell? ⟨V.heap.size, 0, none⟩ = some (.int .i64 k) ∧ w'.cell? ⟨V.heap.size, 1, none⟩ = some (.int .i64 f) ∧ w'.cell? ⟨g, k * 5 + 2, none⟩ = some (.slice (some ⟨gd, 0, none⟩) s.data.length hc)) ⟨x0, x1, m2⟩ (fun hSg4q0 => ?_)
            refine wpAnyH_takeL (i := 0) (v := ?g4qv0) rfl (by kernel_rfl) (by kernel_rfl) (by kernel_rfl) (fun _ _ _ h => h) (Or.inl ⟨by rfl, ?g4qy0⟩) (by assumption) ?g4qr0
            case g4qy0 => first | (intro w hSw; (try dsimp only at hSw); go_simp; done) | (intro w hSw; (try dsimp only at hSw); go_simp; with_reducible rfl)
            case' g4qr0 => try simp only [Act.put, List.setIfInBounds_toArray, List.set_cons_zero, List.set_cons_succ]
            refine wpAnyH_takeL (i := 1) (v := ?g4qv1) rfl (by kernel_rfl) (by kernel_rfl) (by kernel_rfl) (fun _ _ _ h => h) (Or.inl ⟨by rfl, ?g4qy1⟩) (by assumption) ?g4qr1
            case g4qy1 => first | (intro w hSw; (try dsimp only at hSw); go_simp; done) | (intro w hSw; (try dsimp only at hSw); go_simp; with_reducible rfl)
            case' g4qr1 => try simp only [Act.put, List.setIfInBounds_toArray, List.set_cons_zero, List.set_cons_succ]
            refine wpAnyH_takeL (i := 2) (v := ?g4qv2) rfl (by kernel_rfl) (by kernel_rfl) (by kernel_rfl) (fun _ _ _ h => h) (Or.inl ⟨by rfl, ?g4qy2⟩) (by assumption) ?g4qr2
            case g4qy2 => first | (intro w hSw; (try dsimp only at hSw); go_simp; done) | (intro w hSw; (try dsimp only at hSw); go_simp; with_reducible rfl)
            case' g4qr2 => try simp only [Act.put, List.setIfInBounds_toArray, List.set_cons_zero, List.set_cons_succ]
            refine wpAnyH_takeL (i := 3) (v := ?g4qv3) rfl (by kernel_rfl) (by kernel_rfl) (by kernel_rfl) (fun _ _ _ h => h) (Or.inl ⟨by rfl, ?g4qy3⟩) (by assumption) ?g4qr3
            case g4qy3 => first | (intro w hSw; (try dsimp only at hSw); go_simp; done) | (intro w hSw; (try dsimp only at hSw); go_simp; with_reducible rfl)
            case' g4qr3 => try simp only [Act.put, List.setIfInBounds_toArray, List.set_cons_zero, List.set_cons_succ]
            refine wpAnyH_takeL (i := 4) (v := ?g4qv4) rfl (by kernel_rfl) (by kernel_rfl) (by kernel_rfl) (fun _ _ _ h => h) (Or.inl ⟨by rfl, ?g4qy4⟩) (by assumption) ?g4qr4
            case g4qy4 => first | (intro w hSw; (try dsimp only at hSw); go_simp; done) | (intro w hSw; (try dsimp only at hSw); go_simp; with_reducible rfl)
            case' g4qr4 => try simp only [Act.put, List.setIfInBounds_toArray, List.set_cons_zero, List.set_cons_succ]
            refine wpAnyH_takeL (i := 5) (v := ?g4qv5) rfl (by kernel_rfl) (by kernel_rfl) (by kernel_rfl) (fun _ _ _ h => h) (Or.inl ⟨by rfl, ?g4qy5⟩) (by assumption) ?g4qr5
            case g4qy5 => first | (intro w hSw; (try dsimp only at hSw); go_simp; done) | (intro w hSw; (try dsimp only at hSw); go_simp; with_reducible rfl)
            case' g4qr5 => try simp only [Act.put, List.setIfInBounds_toArray, List.set_cons_zero, List.set_cons_succ]
            refine wpAnyH_takeL (i := 6) (v := ?g4qv6) rfl (by kernel_rfl) (by kernel_rfl) (by kernel_rfl) (fun _ _ _ h => h) (Or.inl ⟨by rfl, ?g4qy6⟩) (by assumption) ?g4qr6
            case g4qy6 => first | (intro w hSw; (try dsimp only at hSw); go_simp; done) | (intro w hSw; (try dsimp only at hSw); go_simp; with_reducible rfl)
            case' g4qr6 => try simp only [Act.put, List.setIfInBounds_toArray, List.set_cons_zero, List.set_cons_succ]
            refine wpAnyH_takeL (i := 7) (v := ?g4qv7) rfl (by kernel_rfl) (by kernel_rfl) (by kernel_rfl) (fun _ _ _ h => h) (Or.inl ⟨by rfl, ?g4qy7⟩) (by assumption) ?g4qr7
            case g4qy7 => first | (intro w hSw; (try dsimp only at hSw); go_simp; done) | (intro w hSw; (try dsimp only at hSw); go_simp; with_reducible rfl)
            case' g4qr7 => try simp only [Act.put, List.setIfInBounds_toArray, List.set_cons_zero, List.set_cons_succ]
            refine wpAnyH_takeL (i := 8) (v := ?g4qv8) rfl (by kernel_rfl) (by kernel_rfl) (by kernel_rfl) (fun _ _ _ h => h) (Or.inl ⟨by rfl, ?g4qy8⟩) (by assumption) ?g4qr8
            case g4qy8 => first | (intro w hSw; (try dsimp only at hSw); go_simp; done) | (intro w hSw; (try dsimp only at hSw); go_simp; with_reducible rfl)
            case' g4qr8 => try simp only [Act.put, List.setIfInBounds_toArray, List.set_cons_zero, List.set_cons_succ]
            refine wpAnyH_takeL (i := 9) (v := ?g4qv9) rfl (by kernel_rfl) (by kernel_rfl) (by kernel_rfl) (fun _ _ _ h => h) (Or.inl ⟨by rfl, ?g4qy9⟩) (by assumption) ?g4qr9
            case g4qy9 => first | (intro w hSw; (try dsimp only at hSw); go_simp; done) | (intro w hSw; (try dsimp only at hSw); go_simp; with_reducible rfl)
            case' g4qr9 => try simp only [Act.put, List.setIfInBounds_toArray, List.set_cons_zero, List.set_cons_succ]
            refine wpAnyH_takeL (i := 10) (v := ?g4qv10) rfl (by kernel_rfl) (by kernel_rfl) (by kernel_rfl) (fun _ _ _ h => h) (Or.inl ⟨by rfl, ?g4qy10⟩) (by assumption) ?g4qr10
            case g4qy10 => first | (intro w hSw; (try dsimp only at hSw); go_simp; done) | (intro w hSw; (try dsimp only at hSw); go_simp; with_reducible rfl)
            case' g4qr10 => try simp only [Act.put, List.setIfInBounds_toArray, List.set_cons_zero, List.set_cons_succ]
            refine wpAnyH_takeL (i := 11) (v := ?g4qv11) rfl (by kernel_rfl) (by kernel_rfl) (by kernel_rfl) (fun _ _ _ h => h) (Or.inl ⟨by rfl, ?g4qy11⟩) (by assumption) ?g4qr11
            case g4qy11 => first | (intro w hSw; (try dsimp only at hSw); go_simp; done) | (intro w hSw; (try dsimp only at hSw); go_simp; with_reducible rfl)
            case' g4qr11 => try simp only [Act.put, List.setIfInBounds_toArray, List.set_cons_zero, List.set_cons_succ]
            refine wpAnyH_takeL (i := 12) (v := ?g4qv12) rfl (by kernel_rfl) (by kernel_rfl) (by kernel_rfl) (fun _ _ _ h => h) (Or.inl ⟨by rfl, ?g4qy12⟩) (by assumption) ?g4qr12
            case g4qy12 => first | (intro w hSw; (try dsimp only at hSw); go_simp; done) | (intro w hSw; (try dsimp only at hSw); go_simp; with_reducible rfl)
            case' g4qr12 => try simp only [Act.put, List.setIfInBounds_toArray, List.set_cons_zero, List.set_cons_succ]
            refine wpAnyH_takeL (i := 13) (v := ?g4qv13) rfl (by kernel_rfl) (by kernel_rfl) (by kernel_rfl) (fun _ _ _ h => h) (Or.inl ⟨by rfl, ?g4qy13⟩) (by assumption) ?g4qr13
            case g4qy13 => first | (intro w hSw; (try dsimp only at hSw); go_simp; done) | (intro w hSw; (try dsimp only at hSw); go_simp; with_reducible rfl)
            case' g4qr13 => try simp only [Act.put, List.setIfInBounds_toArray, List.set_cons_zero, List.set_cons_succ]
            refine wpAnyH_takeL (i := 14) (v := ?g4qv14) rfl (by kernel_rfl) (by kernel_rfl) (by kernel_rfl) (fun _ _ _ h => h) (Or.inl ⟨by rfl, ?g4qy14⟩) (by assumption) ?g4qr14
            case g4qy14 => first | (intro w hSw; (try dsimp only at hSw); go_simp; done) | (intro w hSw; (try dsimp only at hSw); go_simp; with_reducible rfl)
            case' g4qr14 => try simp only [Act.put, List.setIfInBounds_toArray, List.set_cons_zero, List.set_cons_succ]
            refine wpAnyH_takeL (i := 15) (v := ?g4qv15) rfl (by kernel_rfl) (by kernel_rfl) (by kernel_rfl) (fun _ _ _ h => h) (Or.inl ⟨by rfl, ?g4qy15⟩) (by assumption) ?g4qr15
            case g4qy15 => first | (intro w hSw; (try dsimp only at hSw); go_simp; done) | (intro w hSw; (try dsimp only at hSw); go_simp; with_reducible rfl)
            case' g4qr15 => try simp only [Act.put, List.setIfInBounds_toArray, List.set_cons_zero, List.set_cons_succ]
            refine wpAnyH_takeL (i := 16) (v := ?g4qv16) rfl (by kernel_rfl) (by kernel_rfl) (by kernel_rfl) (fun _ _ _ h => h) (Or.inl ⟨by rfl, ?g4qy16⟩) (by assumption) ?g4qr16
            case g4qy16 => first | (intro w hSw; (try dsimp only at hSw); go_simp; done) | (intro w hSw; (try dsimp only at hSw); go_simp; with_reducible rfl)
            case' g4qr16 => try simp only [Act.put, List.setIfInBounds_toArray, List.set_cons_zero, List.set_cons_succ]
            refine wpAnyH_done (by kernel_rfl) ?_ _
            change wpList _ _ _ _ _ _
            clear x0 x1 m2
            go_wp2
            first
              | go_roundw
              | refine ⟨?rel, ?measure⟩
            case rel => exact ⟨2 + 1, by omega, by first | rfl | go_num, HSX5, HX5', HSZ5', HC5⟩
            case measure => simp [intOf]
          ·
            obtain ⟨x, hx⟩ : ∃ x : Nat, N / 16777216 % 256 = x := ⟨_, rfl⟩
            have ex : (N : Int) / 16777216 = (x : Int) := by omega
            have hxl : x < 256 := by omega
            have exm : (x : Int) % 256 = (x : Int) := by omega
            have i3 : (0 : Int) ≤ (f : Int) + 3 := by omega
            have i4 : (f : Int) + 3 < (s.data.length : Int) := by omega
            have ef : IntKind.i64.wrap ((f : Int) + 3) = (f : Int) + 3 := IntWalk.i64_in _ (by omega)
            have ef0 : IntKind.i64.wrap (f : Int) = (f : Int) := IntWalk.i64_in _ (by omega)
            have et : ((f : Int) + 3).toNat = f + 3 := by omega
            have i5 : (0 : Int) ≤ (f : Int) := by omega
            have i6 : (f : Int) < (s.data.length : Int) := by omega
            have HXV := hid hx
            have HXL := hid hxl
            have hkl : k < L.length := (List.getElem?_eq_some_iff.1 HSK.out).1
            have hsx5 := SecsX.byte (HQI.out.ext (Ext.refl wr).drew) (g := gd) (c := hc) (f := f + 3) (b := x) HHK.out (List.getElem?_set_self hkl) (by show Value.slice _ _ _ = Value.slice _ _ _; rw [pw_len]) hxl
            rw [List.set_set] at hsx5
            have HSX5 : Hid (SecsX (wr.drew.setCell ⟨gd, f + 3, none⟩ (.int .u8 x)) w1.heap.size hiX 46 5 (.slice (some ⟨g, 0, none⟩) n1 cS) H (L.set k { s with data := pw s.data f N (3 + 1) })) := hid (by rw [show pw s.data f N (3 + 1) = (pw s.data f N 3).set (f + 3) x by rw [← hx]; rfl]; exact hsx5)
            have HX5' : Hid (Ext w1 (wr.drew.setCell ⟨gd, f + 3, none⟩ (.int .u8 x))) := hid (by exact HQX.out.drew.setCell HGD.out.1 _)
            have HSZ5' : Hid (hiX ≤ (wr.drew.setCell ⟨gd, f + 3, none⟩ (.int .u8 x)).heap.size) := hid (by simpa using HQS.out)
            have HC5 : Hid ((wr.drew.setCell ⟨gd, f + 3, none⟩ (.int .u8 x)).cell? ⟨V.heap.size, 0, none⟩ = some (.int .i64 k) ∧ (wr.drew.setCell ⟨gd, f + 3, none⟩ (.int .u8 x)).cell? ⟨V.heap.size, 1, none⟩ = some (.int .i64 f)) := hid (by
              have hb := HBOX.out
              exact ⟨(World.cell?_setCell_other _ _ _ _ (by intro e; exact hb (congrArg Addr.block e))).trans x0, (World.cell?_setCell_other _ _ _ _ (by intro e; exact hb (congrArg Addr.block e))).trans x1⟩)
            have hrow := HQI.out.data k _ _ HHK.out (List.getElem?_set_self hkl)
            dsimp only [Hd.dv] at hrow
            rw [← pw_len s.data f N 3] at hrow
            obtain ⟨y, hy⟩ : ∃ y, (pw s.data f N 3)[f + 3]? = some y := ⟨_, List.getElem?_eq_getElem (by rw [pw_len]; omega)⟩
            obtain ⟨d1, d2⟩ := OwnS.num_cell hrow hy
            have d1d : wr.drew.cell? ⟨gd, f + 3, none⟩ = some (.int .u8 y) := d1
            have d2d : wr.drew.frozen? ⟨gd, f + 3, none⟩ = false := d2
            clear hy hrow d1 d2
            clear hx hkl hsx5
            go_wp2_with fail
            refine wp_region_split 17 (by kernel_rfl) rfl rfl (by kernel_rfl) (fun w' => w'.cell? ⟨V.heap.size, 0, none⟩ = some (.int .i64 k) ∧ w'.cell? ⟨V.heap.size, 1, none⟩ = some (.int .i64 f) ∧ w'.cell? ⟨g, k * 5 + 2, none⟩ = some (.slice (some ⟨gd, 0, none⟩) s.data.length hc)) ⟨x0, x1, m2⟩ (fun hSg5q0 => ?_)
            refine wpAnyH_takeL (i := 0) (v := ?g5qv0) rfl (by kernel_rfl) (by kernel_rfl) (by kernel_rfl) (fun _ _ _ h => h) (Or.inl ⟨by rfl, ?g5qy0⟩) (by assumption) ?g5qr0
            case g5qy0 => first | (intro w hSw; (try dsimp only at hSw); go_simp; done) | (intro w hSw; (try dsimp only at hSw); go_simp; with_reducible rfl)
            case' g5qr0 => try simp only [Act.put, List.setIfInBounds_toArray, List.set_cons_zero, List.set_cons_succ]
            refine wpAnyH_takeL (i := 1) (v := ?g5qv1) rfl (by kernel_rfl) (by kernel_rfl) (by kernel_rfl) (fun _ _ _ h => h) (Or.inl ⟨by rfl, ?g5qy1⟩) (by assumption) ?g5qr1
            case g5qy1 => first | (intro w hSw; (try dsimp only at hSw); go_simp; done) | (intro w hSw; (try dsimp only at hSw); go_simp; with_reducible rfl)
            case' g5qr1 => try simp only [Act.put, List.setIfInBounds_toArray, List.set_cons_zero, List.set_cons_succ]
            refine wpAnyH_takeL (i := 2) (v := ?g5qv2) rfl (by kernel_rfl) (by kernel_rfl) (by kernel_rfl) (fun _ _ _ h => h) (Or.inl ⟨by rfl, ?g5qy2⟩) (by assumption) ?g5qr2
            case g5qy2 => first | (intro w hSw; (try dsimp only at hSw); go_simp; done) | (intro w hSw; (try dsimp only at hSw); go_simp; with_reducible rfl)
            case' g5qr2 => try simp only [Act.put, List.setIfInBounds_toArray, List.set_cons_zero, List.set_cons_succ]
            refine wpAnyH_takeL (i := 3) (v := ?g5qv3) rfl (by kernel_rfl) (by kernel_rfl) (by kernel_rfl) (fun _ _ _ h => h) (Or.inl ⟨by rfl, ?g5qy3⟩) (by assumption) ?g5qr3
            case g5qy3 => first | (intro w hSw; (try dsimp only at hSw); go_simp; done) | (intro w hSw; (try dsimp only at hSw); go_simp; with_reducible rfl)
            case' g5qr3 => try simp only [Act.put, List.setIfInBounds_toArray, List.set_cons_zero, List.set_cons_succ]
            refine wpAnyH_takeL (i := 4) (v := ?g5qv4) rfl (by kernel_rfl) (by kernel_rfl) (by kernel_rfl) (fun _ _ _ h => h) (Or.inl ⟨by rfl, ?g5qy4⟩) (by assumption) ?g5qr4
            case g5qy4 => first | (intro w hSw; (try dsimp only at hSw); go_simp; done) | (intro w hSw; (try dsimp only at hSw); go_simp; with_reducible rfl)
            case' g5qr4 => try simp only [Act.put, List.setIfInBounds_toArray, List.set_cons_zero, List.set_cons_succ]
            refine wpAnyH_takeL (i := 5) (v := ?g5qv5) rfl (by kernel_rfl) (by kernel_rfl) (by kernel_rfl) (fun _ _ _ h => h) (Or.inl ⟨by rfl, ?g5qy5⟩) (by assumption) ?g5qr5
            case g5qy5 => first | (intro w hSw; (try dsimp only at hSw); go_simp; done) | (intro w hSw; (try dsimp only at hSw); go_simp; with_reducible rfl)
            case' g5qr5 => try simp only [Act.put, List.setIfInBounds_toArray, List.set_cons_zero, List.set_cons_succ]
            refine wpAnyH_takeL (i := 6) (v := ?g5qv6) rfl (by kernel_rfl) (by kernel_rfl) (by kernel_rfl) (fun _ _ _ h => h) (Or.inl ⟨by rfl, ?g5qy6⟩) (by assumption) ?g5qr6
            case g5qy6 => first | (intro w hSw; (try dsimp only at hSw); go_simp; done) | (intro w hSw; (try dsimp only at hSw); go_simp; with_reducible rfl)
            case' g5qr6 => try simp only [Act.put, List.setIfInBounds_toArray, List.set_cons_zero, List.set_cons_succ]
            refine wpAnyH_takeL (i := 7) (v := ?g5qv7) rfl (by kernel_rfl) (by kernel_rfl) (by kernel_rfl) (fun _ _ _ h => h) (Or.inl ⟨by rfl, ?g5qy7⟩) (by assumption) ?g5qr7
            case g5qy7 => first | (intro w hSw; (try dsimp only at hSw); go_simp; done) | (intro w hSw; (try dsimp only at hSw); go_simp; with_reducible rfl)
            case' g5qr7 => try simp only [Act.put, List.setIfInBounds_toArray, List.set_cons_zero, List.set_cons_succ]
            refine wpAnyH_takeL (i := 8) (v := ?g5qv8) rfl (by kernel_rfl) (by kernel_rfl) (by kernel_rfl) (fun _ _ _ h => h) (Or.inl ⟨by rfl, ?g5qy8⟩) (by assumption) ?g5qr8
            case g5qy8 => first | (intro w hSw; (try dsimp only at hSw); go_simp; done) | (intro w hSw; (try dsimp only at hSw); go_simp; with_reducible rfl)
            case' g5qr8 => try simp only [Act.put, List.setIfInBounds_toArray, List.set_cons_zero, List.set_cons_succ]
            refine wpAnyH_takeL (i := 9) (v := ?g5qv9) rfl (by kernel_rfl) (by kernel_rfl) (by kernel_rfl) (fun _ _ _ h => h) (Or.inl ⟨by rfl, ?g5qy9⟩) (by assumption) ?g5qr9
            case g5qy9 => first | (intro w hSw; (try dsimp only at hSw); go_simp; done) | (intro w hSw; (try dsimp only at hSw); go_simp; with_reducible rfl)
            case' g5qr9 => try simp only [Act.put, List.setIfInBounds_toArray, List.set_cons_zero, List.set_cons_succ]
            refine wpAnyH_takeL (i := 10) (v := ?g5qv10) rfl (by kernel_rfl) (by kernel_rfl) (by kernel_rfl) (fun _ _ _ h => h) (Or.inl ⟨by rfl, ?g5qy10⟩) (by assumption) ?g5qr10
            case g5qy10 => first | (intro w hSw; (try dsimp only at hSw); go_simp; done) | (intro w hSw; (try dsimp only at hSw); go_simp; with_reducible rfl)
            case' g5qr10 => try simp only [Act.put, List.setIfInBounds_toArray, List.set_cons_zero, List.set_cons_succ]
            refine wpAnyH_takeL (i := 11) (v := ?g5qv11) rfl (by kernel_rfl) (by kernel_rfl) (by kernel_rfl) (fun _ _ _ h => h) (Or.inl ⟨by rfl, ?g5qy11⟩) (by assumption) ?g5qr11
            case g5qy11 => first | (intro w hSw; (try dsimp only at hSw); go_simp; done) | (intro w hSw; (try dsimp only at hSw); go_simp; with_reducible rfl)
            case' g5qr11 => try simp only [Act.put, List.setIfInBounds_toArray, List.set_cons_zero, List.set_cons_succ]
            refine wpAnyH_takeL (i := 12) (v := ?g5qv12) rfl (by kernel_rfl) (by kernel_rfl) (by kernel_rfl) (fun _ _ _ h => h) (Or.inl ⟨by rfl, ?g5qy12⟩) (by assumption) ?g5qr12
            case g5qy12 => first | (intro w hSw; (try dsimp only at hSw); go_simp; done) | (intro w hSw; (try dsimp only at hSw); go_simp; with_reducible rfl)
            case' g5qr12 => try simp only [Act.put, List.setIfInBounds_toArray, List.set_cons_zero, List.set_cons_succ]
            refine wpAnyH_takeL (i := 13) (v := ?g5qv13) rfl (by kernel_rfl) (by kernel_rfl) (by kernel_rfl) (fun _ _ _ h => h) (Or.inl ⟨by rfl, ?g5qy13⟩) (by assumption) ?g5qr13
            case g5qy13 => first | (intro w hSw; (try dsimp only at hSw); go_simp; done) | (intro w hSw; (try dsimp only at hSw); go_simp; with_reducible rfl)
            case' g5qr13 => try simp only [Act.put, List.setIfInBounds_toArray, List.set_cons_zero, List.set_cons_succ]
            refine wpAnyH_takeL (i := 14) (v := ?g5qv14) rfl (by kernel_rfl) (by kernel_rfl) (by kernel_rfl) (fun _ _ _ h => h) (Or.inl ⟨by rfl, ?g5qy14⟩) (by assumption) ?g5qr14
            case g5qy14 => first | (intro w hSw; (try dsimp only at hSw); go_simp; done) | (intro w hSw; (try dsimp only at hSw); go_simp; with_reducible rfl)
            case' g5qr14 => try simp only [Act.put, List.setIfInBounds_toArray, List.set_cons_zero, List.set_cons_succ]
            refine wpAnyH_takeL (i := 15) (v := ?g5qv15) rfl (by kernel_rfl) (by kernel_rfl) (by kernel_rfl) (fun _ _ _ h => h) (Or.inl ⟨by rfl, ?g5qy15⟩) (by assumption) ?g5qr15
            case g5qy15 => first | (intro w hSw; (try dsimp only at hSw); go_simp; done) | (intro w hSw; (try dsimp only at hSw); go_simp; with_reducible rfl)
            case' g5qr15 => try simp only [Act.put, List.setIfInBounds_toArray, List.set_cons_zero, List.set_cons_succ]
            refine wpAnyH_takeL (i := 16) (v := ?g5qv16) rfl (by kernel_rfl) (by kernel_rfl) (by kernel_rfl) (fun _ _ _ h => h) (Or.inl ⟨by rfl, ?g5qy16⟩) (by assumption) ?g5qr16
            case g5qy16 => first | (intro w hSw; (try dsimp only at hSw); go_simp; done) | (intro w hSw; (try dsimp only at hSw); go_simp; with_reducible rfl)
            case' g5qr16 => try simp only [Act.put, List.setIfInBounds_toArray, List.set_cons_zero, List.set_cons_succ]
            refine wpAnyH_done (by kernel_rfl) ?_ _
            change wpList _ _ _ _ _ _
            clear x0 x1 m2
            go_wp2
            first
              | go_roundw
              | refine ⟨?rel, ?measure⟩
            case rel => exact ⟨3 + 1, by omega, by first | rfl | go_num, HSX5, HX5', HSZ5', HC5⟩
            case measure => simp [intOf]
        · obtain rfl : q = 4 := by omega
          have hfin := HQI.out
          rw [pw_four HFL.out, ← HSN.out] at hfin
          have HFIN := hid hfin
          clear hfin
          have h1' := HJ.out
          go_wp2
          first
            | go_roundw
            | refine ⟨?rel, ?measure⟩
          case rel => exact ⟨j + 1, by omega, by go_num, HFIN, HQX, HQS⟩
          case measure => simp [intOf]; omega
    · obtain rfl : j = nr := by omega
      have hall := HI.out
      rw [List.take_of_length_le (by have := HLR.out; omega)] at hall
      have HALL := hid hall
      obtain ⟨r0, r1, r2, r3, rf⟩ := HR0.out.ext (HX1.out.trans HX.out)
      have hb1 : w.heap.size + 1 < w1.heap.size := by
        have h3 := HR0.out.lt
        have h2 := HX1.out.size
        omega
      have HB1 := hid hb1
      clear hall hb1
      go_wp2
      have l1 : (applyOb o).secs.length = n1 := (fold_len o.rels o.secs).trans HN1.out
      have l2 : (applyOb o).syms.length = ny := HLY.out.symm
      refine bodyPost_ret (v := .tuple #[.agg #[.int .u32 o.entry, .slice AS n1 cS, .slice Ay ny cy, .slice none 0 0], .int .i64 0]) (by simp [results, Try.results20, go_sem, World.cell?_setCell_same, World.cell?_setCell_other, r0, r1, r2, r3]) rfl ?_
      rw [applyR_ok HQ.out]
      have hEND : Ext w _ := ((((HE0.out.trans (HX1.out.trans HX.out)).setCell (p := ⟨w.heap.size + 1, 0, none⟩) (by simp) (.int .u32 o.entry)).setCell (p := ⟨w.heap.size + 1, 1, none⟩) (by simp) (.slice AS n1 cS)).setCell (p := ⟨w.heap.size + 1, 2, none⟩) (by simp) (.slice Ay ny cy)).setCell (p := ⟨w.heap.size + 1, 3, none⟩) (by simp) (.slice none 0 0)
      refine ⟨?_, AS, Ay, none, cS, cy, 0, by rw [l1, l2]; rfl, ?_, ?_, Sl.nil⟩
      · exact hEND
      · rw [l1]
        have hf : FreeA (.slice AS n1 cS) H (w.heap.size + 1) := free_highA HALL.out (.inr HB1.out)
        exact (SecsX.farB (SecsX.farB (SecsX.farB (SecsX.farB HALL.out hf) hf) hf) hf).sl (S := All) (fun _ _ => trivial)
      · rw [l2]
        exact HYW.out.ext hEND
end Go.Proofs.Ytnlofhbimfcejaa
