/- funcs.collect: the function at an entry. -/
import Derived.Test.YtnlmhnbogleijaaGreatDoorFbcm
import Derived.Test.YtnlmhnbogleijaaGreatDoorFblm
import Derived.Test.YtnlmhnbogleijaaGreatDoorKeyDm
import Derived.Test.YtnlmhnbogleijaaGreatDoorFunBm
namespace Go.Proofs.YtnlmhnbogleijaaGreatDoor
open Go Go.RowKit Go.Deco
set_option linter.unusedSimpArgs false
set_option linter.unusedVariables false

/-- What collect returns. -/
def FnPost (w : World) (b : List Bs) (a : Nat) (e : Ending) (w' : World) : Prop :=
  Ext w w' ∧ ∃ A c A' c' f, e = .returned (.agg #[.int .u32 f.entry, .string f.name, .slice A f.blocks.length c, .slice A' f.calls.length c', .bool f.leaf]) ∧ FnOf b ⟨#[]⟩ a f ∧ f.blocks.length ≤ b.length ∧ f.calls.length ≤ 1000000 ∧ Sl u32R w' (fun d => w.heap.size ≤ d) (.slice A f.blocks.length c) f.blocks ∧ Sl u32R w' (fun d => w.heap.size ≤ d) (.slice A' f.calls.length c') f.calls

theorem own_set {w : World} {T : Nat → Prop} {base : Nat} {e : TypeId} {v : Value} {l : List Nat} (h : OwnS u32R w base e T v l) (q : Nat) (j : Nat) (x : Value) (hq : q < base) : OwnS u32R (w.setCell ⟨q, j, none⟩ x) base e T v l :=
  own_num_far (row := some q) h ⟨rfl, rfl, rfl, by simp, fun k _ hk => Below.heap_setCell _ _ _ _ (fun e => hk (by rw [e]))⟩ (.inr fun e => by have := (h.block _ e).1; omega)
set_option maxRecDepth 100000 in
set_option maxHeartbeats 2000000 in
theorem fcollect_any (b : List Bs) (hb : ∀ s ∈ b, s.ins.length ≤ 100 ∧ s.calls.flatten.length ≤ 900) (hbn : b.length ≤ 500) (h32 : ∀ x ∈ b.map Bs.addr, x < 4294967296) (wo : World) (ma qa : Nat) (F : Nat → Option Value) (hF : AtF b wo F) (hma : MapG (u32K Tryz.underlying38) wo ma qa F) (w : World) (hx : Ext wo w) (a : Nat) (ha : a < 4294967296) :
    Calls Tryz.prog 17 #[.map (some ma), .int .u32 a] w (FnPost w b a) := by
  have hg := call_fc38
  have hmm := @run_makeMap Tryz.prog
  obtain ⟨Wb, hWb⟩ : ∃ Wb, (w.alloc (Obj.cells #[.map (some ma)] 54)).alloc (Obj.cells #[.int .u32 0, .string ⟨#[]⟩, .slice none 0 0, .slice none 0 0, .bool false] 40) = Wb := ⟨_, rfl⟩
  have hEb : Ext w Wb := by rw [← hWb]; exact ((Ext.refl w).alloc _).alloc _
  have zb : Wb.heap.size = w.heap.size + 1 + 1 := by rw [← hWb]; simp
  have cb : Wb.cell? ⟨w.heap.size, 0, none⟩ = some (.map (some ma)) := by rw [← hWb]; simp [go_sem]
  have hFb : AtF b Wb F := ⟨hF.1, fun x s hs => by
    obtain ⟨v1, v2, v3, h0, h1, h2, h3⟩ := hF.2 x s hs
    exact ⟨v1, v2, v3, h0, h1.ext (hx.trans hEb), h2.ext (hx.trans hEb), h3.ext (hx.trans hEb)⟩⟩
  have hmb : MapG (u32K Tryz.underlying38) Wb ma qa F := hma.ext (hx.trans hEb)
  obtain ⟨W0, hW0⟩ : ∃ W0, (((Wb.alloc (Obj.cells #[.int .u32 a, .string ⟨#[]⟩, .slice none 0 0, .slice none 0 0, .bool true] 40)).alloc (.map #[] 0)).alloc (Obj.cells #[.map (some (w.heap.size + 1 + 1 + 1))] 65)).alloc
    (Obj.cells #[.func (.func 35) #[] #[.pointer (some ⟨w.heap.size, 0, none⟩), .pointer (some ⟨w.heap.size + 1 + 1 + 1 + 1, 0, none⟩), .pointer (some ⟨w.heap.size + 1 + 1, 0, none⟩), .pointer (some ⟨w.heap.size + 1 + 1 + 1 + 1 + 1, 0, none⟩)]] 75) = W0 := ⟨_, rfl⟩
  have hE : Ext Wb W0 := by rw [← hW0]; exact ((((Ext.refl Wb).alloc _).alloc _).alloc _).alloc _
  have z0 : W0.heap.size = w.heap.size + 6 := by rw [← hW0]; simp [zb]
  have cr : ∀ (j : Nat), Wb.frozen? ⟨w.heap.size + 1, j, none⟩ = false := fun j => by rw [← hWb]; simp [go_sem]
  have HR0 : Hid (Wb.cell? ⟨w.heap.size + 1, 0, none⟩ = some (.int .u32 0) ∧ Wb.cell? ⟨w.heap.size + 1, 1, none⟩ = some (.string ⟨#[]⟩) ∧ Wb.cell? ⟨w.heap.size + 1, 2, none⟩ = some (.slice none 0 0) ∧ Wb.cell? ⟨w.heap.size + 1, 3, none⟩ = some (.slice none 0 0) ∧ Wb.cell? ⟨w.heap.size + 1, 4, none⟩ = some (.bool false)) := hid (by rw [← hWb]; simp [go_sem])
  have VS : VSt Wb W0 W0.heap.size w.heap.size (w.heap.size + 1 + 1 + 1 + 1) (w.heap.size + 1 + 1) (w.heap.size + 1 + 1 + 1 + 1 + 1) (w.heap.size + 1 + 1 + 1) a (fun _ => false) 0 [] true none 0 := by
    refine ⟨hE, ?_, ?_, ?_, ?_, ?_, ?_, ?_, ?_, ?_, OwnS.nil, ?_, ?_, ?_, Nat.le_refl _⟩
    · rw [← hW0]; simp [go_sem, zb]
    · rw [← hW0]; simp [go_sem, zb]
    · rw [← hW0]; simp [go_sem, zb]
    · rw [← hW0]; simp [go_sem, zb]
    · rw [← hW0]; simp [go_sem, zb]
    · rw [← hW0]; simp [go_sem, zb]
    · rw [← hW0]; simp [go_sem, zb]
    · intro i; rw [← hW0]; simp [go_sem, zb]
    · rw [← hW0]
      have h := MapG.made (u32K Tryz.underlying38) (Wb.alloc (Obj.cells #[.int .u32 a, .string ⟨#[]⟩, .slice none 0 0, .slice none 0 0, .bool true] 40))
      have e : (Wb.alloc (Obj.cells #[.int .u32 a, .string ⟨#[]⟩, .slice none 0 0, .slice none 0 0, .bool true] 40)).heap.size = w.heap.size + 1 + 1 + 1 := by simp [zb]
      rw [e] at h
      exact ((h.same (f' := setF fun _ => false) fun x => rfl).ext ((Ext.refl _).alloc _)).ext ((Ext.refl _).alloc _)
    · omega
    · omega
    · omega
  have qv := VS.v
  have HVS := hid VS
  have HEb := hid hEb
  have HFb := hid hFb
  have HMb := hid hmb
  have HCb := hid cb
  have HB := hid hb
  have HB32 := hid h32
  have HCR := hid cr
  have HZ0 := hid z0
  clear VS hE hb hF hma hx hFb hmb hEb cr
  go_enter Tryz.func17, Tryz.ntmps17
  go_wp2_with fail
  have hU : ∀ x, isB b x = true → x ∈ b.map Bs.addr := fun x hx => isB_addr hx
  refine (vb_any b HB.out (b.map Bs.addr) hU Wb W0.heap.size w.heap.size (w.heap.size + 1 + 1 + 1 + 1) (w.heap.size + 1 + 1) (w.heap.size + 1 + 1 + 1 + 1 + 1) (w.heap.size + 1 + 1 + 1) a ma qa F HFb.out HMb.out HCb.out 500 W0 a (fun _ => false) 0 [] true none 0 ha (by rw [unseen_none]; simpa using hbn) (by rw [unseen_none]; simp; omega) (by rw [unseen_none]; simp; omega) HVS.out).mono ?_
  rintro e w1 ⟨rfl, S', q', C', L', A', c', hv1, hvb, hu1, hq1, hc1⟩
  have hS : ∀ x, S' x = true ↔ ReachB b a x := hvb.all
  obtain ⟨ks, hks⟩ : ∃ ks, asc ((b.map Bs.addr).filter S') = ks := ⟨_, rfl⟩
  have hkm : ∀ x, x ∈ ks ↔ S' x = true := fun x => by
    rw [← hks, asc_mem, List.mem_filter]
    exact ⟨fun h => h.2, fun h => ⟨hU x ((hS x).1 h).ends, h⟩⟩
  have hkp : ks.Pairwise (· < ·) := by rw [← hks]; exact asc_pw _
  have hkl : ks.length ≤ b.length := by
    have h1 := asc_len ((b.map Bs.addr).filter S')
    have h2 := List.length_filter_le S' (b.map Bs.addr)
    rw [List.length_map] at h2
    rw [← hks]
    omega
  have hk32 : ∀ x ∈ ks, x < 4294967296 := fun x hx => HB32.out x (hU x ((hS x).1 ((hkm x).1 hx)).ends)
  have hcl : C'.length ≤ 1000000 := by
    rw [unseen_none, List.length_map, List.length_nil] at hc1
    omega
  obtain ⟨f, hf⟩ : ∃ f : Fn18, (⟨a, ⟨#[]⟩, ks, asc C', L'⟩ : Fn18) = f := ⟨_, rfl⟩
  have HFN : Hid (FnOf b ⟨#[]⟩ a f) := hid (by
    rw [← hf]
    refine ⟨rfl, rfl, hkp, fun x => (hkm x).trans (hS x), asc_pw _, fun c => ?_, ?_⟩
    · show c ∈ asc C' ↔ _
      rw [asc_mem, hvb.calls]
      constructor
      · rintro (h | ⟨x, h1, -, h2⟩)
        · cases h
        · exact ⟨x, (hS x).1 h1, h2⟩
      · rintro ⟨x, h1, h2⟩
        exact .inr ⟨x, (hS x).2 h1, rfl, h2⟩
    · show L' = true ↔ _
      rw [hvb.leaf]
      exact ⟨fun h x hx => h.2 x ((hS x).2 hx) rfl, fun h => ⟨rfl, fun x hx _ => h x ((hS x).1 hx)⟩⟩)
  have HFE := hid hf
  have HKS := hid (And.intro hkp (And.intro hkl (And.intro hk32 hkm)))
  have HCL := hid hcl
  have HV1 := hid hv1
  have d2 := hv1.s
  clear hv1 hvb hu1 hq1 hc1 hS hks hkm hkp hkl hk32 hcl hf hW0 hg hmm qv
  go_wp2_with fail
  refine (mapsKeys_any (w.heap.size + 1 + 1 + 1) w1).mono ?_
  rintro e w2 ⟨rfl, hw2⟩
  have hx2 : Ext w1 w2 := by rw [hw2]; exact (Ext.refl w1).alloc _
  have cB : w2.cell? ⟨w1.heap.size, 0, none⟩ = some (.map (some (w.heap.size + 1 + 1 + 1))) := by rw [hw2]; simp [go_sem]
  have HV2 := hid (HV1.out.more hx2)
  have HK2 := hid (sorted_keys w2 w1.heap.size (w.heap.size + 1 + 1 + 1) q' (setF S') cB HV2.out.map ks HKS.out.1 (fun x => by rw [HKS.out.2.2.2 x]; unfold setF; cases S' x <;> simp) (by have := HKS.out.2.1; omega) HKS.out.2.2.1)
  clear hw2 hx2 cB d2
  go_wp2_with fail
  refine (HK2.out).mono ?_
  rintro e w3 ⟨hx3, A3, c3, rfl, ho3⟩
  have HV3 := hid (HV2.out.more hx3)
  have HX3 := hid hx3
  have HO3 := hid ho3
  obtain ⟨kn, hkn⟩ : ∃ kn, ks.length = kn := ⟨_, rfl⟩
  have HKN := hid hkn
  obtain ⟨cn, hcn⟩ : ∃ cn, C'.length = cn := ⟨_, rfl⟩
  have HCN := hid hcn
  have f0 := HV3.out.f0
  have f1 := HV3.out.f1
  have f2 := HV3.out.f2
  have f3 := HV3.out.f3
  have f4 := HV3.out.f4
  have ff := HV3.out.ff
  rw [hcn] at f3
  rw [hkn]
  have hcn6 : cn ≤ 1000000 := by have := HCL.out; omega
  clear hx3 ho3 hkn hcn
  have FRF : ∀ j, w3.frozen? ⟨w.heap.size + 1, j, none⟩ = false := fun j => (HV3.out.ext.frozen (p := ⟨w.heap.size + 1, j, none⟩) (show w.heap.size + 1 < Wb.heap.size by omega)).trans (HCR.out j)
  have r0 := HV3.out.ext.cell HR0.out.1
  have r1 := HV3.out.ext.cell HR0.out.2.1
  have r2 := HV3.out.ext.cell HR0.out.2.2.1
  have r3 := HV3.out.ext.cell HR0.out.2.2.2.1
  have r4 := HV3.out.ext.cell HR0.out.2.2.2.2
  have HRR := hid (And.intro r0 (And.intro r1 (And.intro r2 (And.intro r3 r4))))
  have HFRF := hid FRF
  have HFF := hid (And.intro f0 (And.intro f1 (And.intro f2 f4)))
  clear r0 r1 r2 r3 r4 FRF
  go_wp2_with fail
  obtain ⟨W4, hW4⟩ : ∃ W4, w3.setCell ⟨w.heap.size + 1 + 1, 2, none⟩ (.slice A3 kn c3) = W4 := ⟨_, rfl⟩
  have hV4 := (HV3.out.ext.setCell (p := ⟨w.heap.size + 1 + 1, 2, none⟩) (show Wb.heap.size ≤ w.heap.size + 1 + 1 by omega) (.slice A3 kn c3))
  rw [hW4] at hV4
  have hfar : ∀ {T : Nat → Prop} {base : Nat} {v : Value} {l : List Nat}, Wb.heap.size < base → OwnS u32R w3 base 38 T v l → OwnS u32R W4 base 38 T v l := fun hbz ho => by
    rw [← hW4]
    exact own_num_far (row := some (w.heap.size + 1 + 1)) ho ⟨rfl, rfl, rfl, by simp, fun k _ hk => Below.heap_setCell _ _ _ _ (fun e => hk (by rw [e]))⟩ (.inr fun e => by have := (ho.block _ e).1; omega)
  have hw2 : Wb.heap.size < w2.heap.size := by have h1 := HV2.out.le; have h2 := HZ0.out; omega
  have HO4 := hid (hfar hw2 HO3.out)
  have hw0 : Wb.heap.size < W0.heap.size := by have h2 := HZ0.out; omega
  have HC4 := hid (hfar hw0 HV3.out.own)
  have HZ4 : Hid (W4.heap.size = w3.heap.size) := hid (by rw [← hW4]; simp)
  have g0 : W4.cell? ⟨w.heap.size + 1 + 1, 0, none⟩ = some (.int .u32 a) := by rw [← hW4]; simp [World.cell?_setCell_other, HFF.out.1]
  have g1 : W4.cell? ⟨w.heap.size + 1 + 1, 1, none⟩ = some (.string ⟨#[]⟩) := by rw [← hW4]; simp [World.cell?_setCell_other, HFF.out.2.1]
  have g2 : W4.cell? ⟨w.heap.size + 1 + 1, 2, none⟩ = some (.slice A3 kn c3) := by rw [← hW4]; exact World.cell?_setCell_same _ _ _ HFF.out.2.2.1
  have g3 : W4.cell? ⟨w.heap.size + 1 + 1, 3, none⟩ = some (.slice A' cn c') := by rw [← hW4]; simp [World.cell?_setCell_other, f3]
  have g4 : W4.cell? ⟨w.heap.size + 1 + 1, 4, none⟩ = some (.bool L') := by rw [← hW4]; simp [World.cell?_setCell_other, HFF.out.2.2.2]
  have gf : ∀ i, W4.frozen? ⟨w.heap.size + 1 + 1, i, none⟩ = false := fun i => by rw [← hW4, World.frozen?_setCell]; exact ff i
  have hr : ∀ (j : Nat) (u : Value), w3.cell? ⟨w.heap.size + 1, j, none⟩ = some u → W4.cell? ⟨w.heap.size + 1, j, none⟩ = some u := fun j u hu => by
    rw [← hW4]
    exact (World.cell?_setCell_other _ _ _ _ (fun e => by have : w.heap.size + 1 + 1 = w.heap.size + 1 := congrArg Addr.block e; omega)).trans hu
  have HG := hid (And.intro g0 (And.intro g1 (And.intro g2 (And.intro g3 (And.intro g4 gf)))))
  have HR4 := hid (And.intro (hr _ _ HRR.out.1) (And.intro (hr _ _ HRR.out.2.1) (And.intro (hr _ _ HRR.out.2.2.1) (And.intro (hr _ _ HRR.out.2.2.2.1) (hr _ _ HRR.out.2.2.2.2)))))
  have HRF : Hid (∀ j, W4.frozen? ⟨w.heap.size + 1, j, none⟩ = false) := hid (fun j => by rw [← hW4, World.frozen?_setCell]; exact HFRF.out j)
  have HV4 := hid hV4
  have hsz4 : w.heap.size + 1 + 1 < W4.heap.size := World.block_lt_of_cell? _ _ g0
  have HWZ := hid zb
  rw [hW4]
  clear hW4 hV4 hfar hw2 hw0 g0 g1 g2 g3 g4 gf hr f0 f1 f2 f3 f4 ff
  refine (fsorted_any W4 (fun d => W0.heap.size ≤ d) A' cn c' C' (by rw [← HCN.out]; exact HC4.out.num_sl fun k hk => hk) hcn6).mono ?_
  rintro e w5 ⟨hx5, A5, c5, rfl, ho5⟩
  obtain ⟨an, han⟩ : ∃ an, (asc C').length = an := ⟨_, rfl⟩
  have HAN := hid han
  rw [han]
  have HO5 := hid ho5
  have HX5 := hid hx5
  have HK5 := hid (HO4.out.ext hx5)
  have g0 := hx5.cell HG.out.1
  have g1 := hx5.cell HG.out.2.1
  have g2 := hx5.cell HG.out.2.2.1
  have g3 := hx5.cell HG.out.2.2.2.1
  have g4 := hx5.cell HG.out.2.2.2.2.1
  have gf : ∀ i, w5.frozen? ⟨w.heap.size + 1 + 1, i, none⟩ = false := fun i => (hx5.frozen (p := ⟨w.heap.size + 1 + 1, i, none⟩) hsz4).trans (HG.out.2.2.2.2.2 i)
  have r0 := hx5.cell HR4.out.1
  have r1 := hx5.cell HR4.out.2.1
  have r2 := hx5.cell HR4.out.2.2.1
  have r3 := hx5.cell HR4.out.2.2.2.1
  have r4 := hx5.cell HR4.out.2.2.2.2
  have rf : ∀ i, w5.frozen? ⟨w.heap.size + 1, i, none⟩ = false := fun i => (hx5.frozen (p := ⟨w.heap.size + 1, i, none⟩) (show w.heap.size + 1 < W4.heap.size by omega)).trans (HRF.out i)
  clear hx5 ho5 han
  go_wp2_with fail
  refine bodyPost_ret (v := .agg #[.int .u32 a, .string ⟨#[]⟩, .slice A3 kn c3, .slice A5 an c5, .bool L']) (by simp [results, Tryz.results17, go_sem, World.cell?_setCell_same, World.cell?_setCell_other, r0, r1, r2, r3, r4]) rfl ?_
  have hbz : w.heap.size + 1 + 1 < W0.heap.size := by have := HZ0.out; omega
  have hkz : w.heap.size + 1 + 1 < w2.heap.size := by have := HV2.out.le; omega
  have o1 : OwnS u32R _ W4.heap.size 38 All (.slice A5 (asc C').length c5) (asc C') := own_set (own_set (own_set (own_set (own_set (own_set HO5.out (w.heap.size + 1 + 1) 3 (.slice A5 an c5) (by omega)) (w.heap.size + 1) 0 (.int .u32 a) (by omega)) (w.heap.size + 1) 1 (.string ⟨#[]⟩) (by omega)) (w.heap.size + 1) 2 (.slice A3 kn c3) (by omega)) (w.heap.size + 1) 3 (.slice A5 an c5) (by omega)) (w.heap.size + 1) 4 (.bool L') (by omega)
  have o2 : OwnS u32R _ w2.heap.size 38 All (.slice A3 ks.length c3) ks := own_set (own_set (own_set (own_set (own_set (own_set HK5.out (w.heap.size + 1 + 1) 3 (.slice A5 an c5) (by omega)) (w.heap.size + 1) 0 (.int .u32 a) (by omega)) (w.heap.size + 1) 1 (.string ⟨#[]⟩) (by omega)) (w.heap.size + 1) 2 (.slice A3 kn c3) (by omega)) (w.heap.size + 1) 3 (.slice A5 an c5) (by omega)) (w.heap.size + 1) 4 (.bool L') (by omega)
  have hx : ∀ (j q : Nat) (u : Value) (V : World), w.heap.size ≤ q → Ext w V → Ext w (V.setCell ⟨q, j, none⟩ u) := fun j q u V hq hV => hV.setCell (p := ⟨q, j, none⟩) hq u
  have hxw : Ext w w5 := (HEb.out.trans HV4.out).trans HX5.out
  have hFE := HFE.out
  have hFN := HFN.out
  subst hFE
  refine ⟨hx _ _ _ _ (by omega) (hx _ _ _ _ (by omega) (hx _ _ _ _ (by omega) (hx _ _ _ _ (by omega) (hx _ _ _ _ (by omega) (hx _ _ _ _ (by omega) hxw))))), A3, c3, A5, c5, _, ?_, hFN, HKS.out.2.1, ?_, o2.num_sl (fun k hk => by omega), o1.num_sl (fun k hk => by omega)⟩
  · show _ = Ending.returned (.agg #[.int .u32 a, .string ⟨#[]⟩, .slice A3 ks.length c3, .slice A5 (asc C').length c5, .bool L'])
    rw [HKN.out, HAN.out]
  · show (asc C').length ≤ _
    have := asc_len C'
    have := HCL.out
    omega
end Go.Proofs.YtnlmhnbogleijaaGreatDoor
