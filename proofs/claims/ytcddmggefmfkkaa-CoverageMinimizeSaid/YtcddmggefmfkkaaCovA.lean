/- coverage: the counts' add, cover and all. -/
import Derived.Test.YtcddmggefmfkkaaKeyD
import Derived.Test.YtcddmggefmfkkaaCovL
import Derived.Test.YtcddmggefmfkkaaApp
import Derived.Lib.MinMax
namespace Go.Proofs.Ytcddmggefmfkkaa
open Go.RowKit Go.Deco
set_option linter.unusedSimpArgs false
set_option linter.unusedVariables false

theorem zero_int : ∀ w, (zeroValue 3).run Try.prog w = .ok (.int .i64 0) w := fun w => by kernel_rfl
theorem hit_int (n : Int) : min (max n 0) 2147483647 = ((hit n : Nat) : Int) := by unfold hit; omega
theorem capH_int (n m : Nat) : min ((n : Int) + (m : Int)) 2147483647 = ((capH (n + m) : Nat) : Int) := by unfold capH; omega
theorem hit_le (n : Int) : hit n ≤ 2147483647 := Nat.min_le_right _ _

def AddPost (w : World) (m q : Nat) (p : List (Nat × Int)) (e : Ending) (w' : World) : Prop :=
  e = .returned (.tuple #[]) ∧ w.grownBy w' (some m) ∧ MapG (u32K Try.underlying36) w' m q (cntF p)

set_option maxRecDepth 100000 in
set_option maxHeartbeats 1000000 in
theorem add_any (w : World) (m q : Nat) (p : List (Nat × Int)) (hm : MapG (u32K Try.underlying36) w m q (cntF p)) (hq : q < 1000000) (x : Nat) (hx : x < 4294967296) (n : Int) :
    Calls Try.prog 34 #[.map (some m), .int .u32 x, .int .i64 n] w (AddPost w m (q + 1) (p ++ [(x, n)])) := by
  have HM := hid hm; clear hm
  have hd := hit_int n
  have hl := cntF_look p x
  have hs := cntF_snoc p x n
  have h1 := capH_le (tot p x)
  obtain ⟨h, hh⟩ : ∃ h, capH (tot p x) = h := ⟨_, rfl⟩
  rw [hh] at hl hs h1
  have h2 := hit_le n
  obtain ⟨d, hdd⟩ : ∃ d, hit n = d := ⟨_, rfl⟩
  rw [hdd] at hd h2 hs
  have hw : IntKind.i64.wrap ((h : Int) + (d : Int)) = (h : Int) + (d : Int) := IntWalk.i64_in _ (by omega)
  have hc := capH_int h d
  have HL := hid hl; clear hl
  have HS := hid hs; clear hs hh hdd
  go_enter Try.func34, Try.ntmps34
  go_wp2_with (first
    | (at_lookup; refine wpList_look _ rfl (.tmp 8) (.tmp 9) 65 rfl 3 Try.underlying65 (.int .i64 0) (zero_int _) (u32K Try.underlying36) m q (cntF p) rfl HM.out x rfl hx (.int .i64 h) HL.out ?_)
    | (at_mapUpdate; refine wpList_put _ rfl (.tmp 6) (.tmp 7) (.tmp 15) 65 rfl 3 Try.underlying65 (u32K Try.underlying36) m q (cntF p) rfl HM.out (by unfold maxLen; omega) x rfl hx _ rfl ?_; intro w1 hm1 hg1; have HM1 := hid (MapG.same hm1 HS.out); have HG1 := hid hg1; clear hm1 hg1)
    | fail)
  (try simp only [Exit.inBlock, Exit.then]); refine bodyPost_ret (results_none rfl _ _ _) rfl ?_
  exact ⟨rfl, HG1.out, HM1.out⟩

theorem own_apart {E E' : Type} {R : Rep E} {R' : Rep E'} {w : World} {base base' : Nat} {e e' : TypeId} {T T' : Nat → Prop} {v v' : Value} {l : List E} {l' : List E'} (h : OwnS R w base e T v l) (h' : OwnS R' w base' e' T' v' l') (hne : e ≠ e') :
    v.ownBlock = none ∨ v.ownBlock ≠ v'.ownBlock := by
  obtain ⟨xs, ho, _⟩ := h
  obtain ⟨xs', ho', _⟩ := h'
  rcases ho.2 with ⟨rfl, _⟩ | ⟨g, cap, cur, rfl, _, hb, _⟩
  · exact .inl rfl
  · refine .inr ?_
    rcases ho'.2 with ⟨rfl, _⟩ | ⟨g', cap', cur', rfl, _, hb', _⟩
    · simp [Value.ownBlock]
    · intro e1
      have : g = g' := by simpa [Value.ownBlock] using e1
      subst this
      rw [hb] at hb'
      injection hb' with hb'
      injection hb' with _ h2 _
      exact hne h2
theorem info_int : (Try.prog.info? 3).map (fun i => (i.zero, i.size, i.bytes)) = some (some (.int .i64 0), 1, 8) := by kernel_rfl
def Nowhere (_ : Nat) : Prop := False

/-- The cover in the making: box B; K: where its rows lie from on. -/
structure CovAt (w2 wr : World) (B K : Nat) (A1 : Option Addr) (c1 : Nat) (A2 : Option Addr) (c2 : Nat) (M : List Nat) (H : List Int) : Prop where
  e0 : wr.cell? ⟨B, 0, none⟩ = some (.slice A1 M.length c1)
  e1 : wr.cell? ⟨B, 1, none⟩ = some (.slice A2 H.length c2)
  fr : ∀ i, wr.frozen? ⟨B, i, none⟩ = false
  o1 : OwnS u32R wr K 36 Nowhere (.slice A1 M.length c1) M
  o2 : OwnS i64R wr K 3 Nowhere (.slice A2 H.length c2) H
  gr : w2.grownBy wr (some B)

theorem grown_cell {w w' : World} {row : Option Nat} (hg : w.grownBy w' row) {q : Addr} (hlt : q.block < w.heap.size) (hne : some q.block ≠ row) : w'.cell? q = w.cell? q := World.cell?_of_block (hg.block _ hlt hne)
theorem grown_frozen {w w' : World} {row : Option Nat} (hg : w.grownBy w' row) {q : Addr} (hlt : q.block < w.heap.size) (hne : some q.block ≠ row) : w'.frozen? q = w.frozen? q := World.frozen?_of_block (hg.block _ hlt hne)
section
variable {w2 wr w5 : World} {B K : Nat} {A1 A2 A5 : Option Addr} {c1 c2 c5 n5 : Nat} {M M5 : List Nat} {H H5 : List Int}
theorem CovAt.blocks (h : CovAt w2 wr B K A1 c1 A2 c2 M H) (hB : B < w2.heap.size) (hK : w2.heap.size ≤ K) (hg : wr.grownBy w5 (Value.slice A1 M.length c1).ownBlock) (hn : M5.length = n5) (ho : OwnS u32R w5 K 36 Nowhere (.slice A5 n5 c5) M5) :
    CovAt w2 (w5.setCell ⟨B, 0, none⟩ (.slice A5 n5 c5)) B K A5 c5 A2 c2 M5 H ∧ w5.cell? ⟨B, 0, none⟩ = some (.slice A1 M.length c1) ∧ w5.cell? ⟨B, 1, none⟩ = some (.slice A2 H.length c2) ∧ w5.frozen? ⟨B, 0, none⟩ = false ∧ w5.frozen? ⟨B, 1, none⟩ = false := by
  subst hn
  have hob := h.o1.block
  have hlt : B < wr.heap.size := Nat.lt_of_lt_of_le hB h.gr.size
  have hne : some B ≠ (Value.slice A1 M.length c1).ownBlock := fun e => by have := (hob B e.symm).1; omega
  have x0 := (grown_cell hg (q := ⟨B, 0, none⟩) hlt hne).trans h.e0
  have x1 := (grown_cell hg (q := ⟨B, 1, none⟩) hlt hne).trans h.e1
  have xf : ∀ i, w5.frozen? ⟨B, i, none⟩ = false := fun i => (grown_frozen hg (q := ⟨B, i, none⟩) hlt hne).trans (h.fr i)
  refine ⟨⟨World.cell?_setCell_same' _ _ _ (by rw [x0]; rfl), (World.cell?_setCell_other _ _ _ _ (by simp)).trans x1, fun i => by rw [World.frozen?_setCell]; exact xf i, ?_, ?_, ?_⟩, x0, x1, xf 0, xf 1⟩
  · exact ho.set_far (fun e => by have := (ho.block B e).1; omega) fun b hb => hb.elim
  · have h2 := h.o2.kept hg (own_apart h.o2 h.o1 (by decide)) fun b hb => hb.elim
    exact h2.set_far (fun e => by have := (h2.block B e).1; omega) fun b hb => hb.elim
  · refine ⟨hg.os.trans h.gr.os, hg.tape.trans h.gr.tape, hg.output.trans h.gr.output, by simpa using Nat.le_trans h.gr.size hg.size, fun k hk hkb => ?_⟩
    exact (Below.heap_setCell _ _ _ k (fun e => hkb (congrArg some e))).trans ((hg.block k (Nat.lt_of_lt_of_le hk h.gr.size) (fun e => by have := (hob k e.symm).1; omega)).trans (h.gr.block k hk hkb))
theorem CovAt.hits (h : CovAt w2 wr B K A1 c1 A2 c2 M H) (hB : B < w2.heap.size) (hK : w2.heap.size ≤ K) (hg : wr.grownBy w5 (Value.slice A2 H.length c2).ownBlock) (hn : H5.length = n5) (ho : OwnS i64R w5 K 3 Nowhere (.slice A5 n5 c5) H5) :
    CovAt w2 (w5.setCell ⟨B, 1, none⟩ (.slice A5 n5 c5)) B K A1 c1 A5 c5 M H5 ∧ w5.cell? ⟨B, 0, none⟩ = some (.slice A1 M.length c1) ∧ w5.cell? ⟨B, 1, none⟩ = some (.slice A2 H.length c2) ∧ w5.frozen? ⟨B, 0, none⟩ = false ∧ w5.frozen? ⟨B, 1, none⟩ = false := by
  subst hn
  have hob := h.o2.block
  have hlt : B < wr.heap.size := Nat.lt_of_lt_of_le hB h.gr.size
  have hne : some B ≠ (Value.slice A2 H.length c2).ownBlock := fun e => by have := (hob B e.symm).1; omega
  have x0 := (grown_cell hg (q := ⟨B, 0, none⟩) hlt hne).trans h.e0
  have x1 := (grown_cell hg (q := ⟨B, 1, none⟩) hlt hne).trans h.e1
  have xf : ∀ i, w5.frozen? ⟨B, i, none⟩ = false := fun i => (grown_frozen hg (q := ⟨B, i, none⟩) hlt hne).trans (h.fr i)
  refine ⟨⟨(World.cell?_setCell_other _ _ _ _ (by simp)).trans x0, World.cell?_setCell_same' _ _ _ (by rw [x1]; rfl), fun i => by rw [World.frozen?_setCell]; exact xf i, ?_, ?_, ?_⟩, x0, x1, xf 0, xf 1⟩
  · have h2 := h.o1.kept hg (own_apart h.o1 h.o2 (by decide)) fun b hb => hb.elim
    exact h2.set_far (fun e => by have := (h2.block B e).1; omega) fun b hb => hb.elim
  · exact ho.set_far (fun e => by have := (ho.block B e).1; omega) fun b hb => hb.elim
  · refine ⟨hg.os.trans h.gr.os, hg.tape.trans h.gr.tape, hg.output.trans h.gr.output, by simpa using Nat.le_trans h.gr.size hg.size, fun k hk hkb => ?_⟩
    exact (Below.heap_setCell _ _ _ k (fun e => hkb (congrArg some e))).trans ((hg.block k (Nat.lt_of_lt_of_le hk h.gr.size) (fun e => by have := (hob k e.symm).1; omega)).trans (h.gr.block k hk hkb))
end
theorem capH_i64 (W : World) (S : Nat → Prop) (n : Nat) : i64R.rel W S [.int .i64 ((capH n : Nat) : Int)] ((capH n : Nat) : Int) := ⟨rfl, by have := capH_le n; omega, by have := capH_le n; omega⟩

def CovPost (w : World) (p : List (Nat × Int)) (e : Ending) (w' : World) : Prop :=
  Ext w w' ∧ ∃ A1 c1 A2 c2, e = .returned (.agg #[.slice A1 (covB p).length c1, .slice A2 (covB p).length c2]) ∧ Sl u32R w' (fun b => w.heap.size ≤ b) (.slice A1 (covB p).length c1) (covB p) ∧ Sl i64R w' (fun b => w.heap.size ≤ b) (.slice A2 (covB p).length c2) (covH p)

set_option maxRecDepth 100000 in
set_option maxHeartbeats 4000000 in
theorem cover_any (w : World) (m q : Nat) (p : List (Nat × Int)) (hm : MapG (u32K Try.underlying36) w m q (cntF p)) (hp : p.length ≤ 1000) (h32 : ∀ a ∈ p.map Prod.fst, a < 4294967296) :
    Calls Try.prog 35 #[.map (some m)] w (CovPost w p) := by
  obtain ⟨i0, hi, hz0, hz1, hz2⟩ := info_parts info_w32
  obtain ⟨j0, hj, hj0, hj1, hj2⟩ := info_parts info_int
  have HI := hid hi
  have HZ0 := hid hz0
  have HZ1 := hid hz1
  have HZ2 := hid hz2
  have HJ := hid hj
  have HJ0 := hid hj0
  have HJ1 := hid hj1
  have HJ2 := hid hj2
  obtain ⟨K, hK⟩ : ∃ K, asc (p.map Prod.fst) = K := ⟨_, rfl⟩
  have hKl : K.length ≤ 1000 := by
    have := asc_len (p.map Prod.fst)
    rw [List.length_map] at this
    rw [← hK]
    omega
  have hKp : K.Pairwise (· < ·) := by rw [← hK]; exact asc_pw _
  have hKm : ∀ x, x ∈ K ↔ (cntF p x).isSome = true := fun x => by rw [cntF_some, ← hK, asc_mem]
  have hK32 : ∀ x ∈ K, x < 4294967296 := fun x hx => h32 x (asc_mem.1 (by rw [hK]; exact hx))
  have HKP := hid hKp
  have HKM := hid hKm
  have HK32 := hid hK32
  have HMM := hid hm
  have HK := hid hK
  clear hi hz0 hz1 hz2 hj hj0 hj1 hj2 hKp hKm hK32 hm hK h32
  obtain ⟨W0, hW0⟩ : ∃ W0, (w.alloc (.cells #[.slice none 0 0, .slice none 0 0] 31)).alloc (.cells #[.slice none 0 0, .slice none 0 0] 31) = W0 := ⟨_, rfl⟩
  go_enter Try.func35, Try.ntmps35
  go_wp2_with fail
  refine (mapsKeys_any m W0).mono ?_
  rintro e W1 ⟨rfl, hW1⟩
  have hs0 : W0.heap.size = w.heap.size + 1 + 1 := by rw [← hW0]; simp
  have hE0 : Ext w W0 := by rw [← hW0]; exact ((Ext.refl w).alloc _).alloc _
  have r0 : W0.cell? ⟨w.heap.size, 0, none⟩ = some (.slice none 0 0) := by rw [← hW0]; simp [go_sem]
  have r1 : W0.cell? ⟨w.heap.size, 1, none⟩ = some (.slice none 0 0) := by rw [← hW0]; simp [go_sem]
  have e0 : W0.cell? ⟨w.heap.size + 1, 0, none⟩ = some (.slice none 0 0) := by rw [← hW0]; simp [go_sem]
  have e1 : W0.cell? ⟨w.heap.size + 1, 1, none⟩ = some (.slice none 0 0) := by rw [← hW0]; simp [go_sem]
  have fr : ∀ b i, b < w.heap.size + 1 + 1 → w.heap.size ≤ b → W0.frozen? ⟨b, i, none⟩ = false := by
    intro b i h1 h2
    rw [← hW0]
    have : b = w.heap.size ∨ b = w.heap.size + 1 := by omega
    rcases this with rfl | rfl <;> simp
  have hE1 : Ext W0 W1 := by rw [hW1]; exact (Ext.refl W0).alloc _
  have hs1 : W1.heap.size = w.heap.size + 1 + 1 + 1 := by rw [hW1]; simp [hs0]
  have hc1 : W1.cell? ⟨W0.heap.size, 0, none⟩ = some (.map (some m)) := by rw [hW1]; simp [go_sem]
  have HE0 := hid hE0
  have HE1 := hid hE1
  have HS0 := hid hs0
  have HS1 := hid hs1
  have HC1 := hid hc1
  have HR0 := hid r0
  have HR1 := hid r1
  have HB0 := hid e0
  have HB1 := hid e1
  have HFR := hid fr
  clear hW1 hW0 hE0 hE1 hs0 hs1 hc1 r0 r1 e0 e1 fr
  go_wp2_with fail
  refine (sorted_keys W1 W0.heap.size m q (cntF p) HC1.out ((HMM.out.ext HE0.out).ext HE1.out) K HKP.out HKM.out (by omega) HK32.out).mono ?_
  rintro e w2 ⟨hx2, kA, kc, rfl, hk2⟩
  obtain ⟨N, hN⟩ : ∃ N, K.length = N := ⟨_, rfl⟩
  have HKS : Hid (Sl u32R w2 (fun b => w.heap.size + 1 + 1 + 1 ≤ b) (.slice kA N kc) K) := hid (by rw [← hN]; exact hk2.num_sl (fun k hk => by have := HS1.out; omega))
  have hcap := HKS.out.cap
  have hcap1 := hcap.1
  have hcap2 := hcap.2
  rw [hN] at hKl ⊢
  have HN := hid hN
  have HX2 := hid hx2
  have HX02 := hid (HE1.out.trans hx2)
  have HM2 := hid (((HMM.out.ext HE0.out).ext HE1.out).ext hx2)
  have hmB : m ≠ w.heap.size + 1 := by have := HMM.out.lt; omega
  have hs2 : w.heap.size + 1 + 1 + 1 ≤ w2.heap.size := by have := hx2.size; have := HS1.out; omega
  have HS2 := hid hs2
  clear hk2 hcap hN hx2 hs2
  go_wp2
  go_loopw [10] (fun i wr => ∃ (j : Nat) (A1 : Option Addr) (c1 : Nat) (A2 : Option Addr) (c2 : Nat) (M : List Nat) (H : List Int), j ≤ N ∧ i = .int .i64 j ∧ Hid (CovAt w2 wr (w.heap.size + 1) w2.heap.size A1 c1 A2 c2 M H) ∧ Hid (M = (K.take j).filter fun a => decide (0 < tot p a)) ∧ Hid (H = M.map fun a => ((capH (tot p a) : Nat) : Int))) (fun i _ => N - (intOf i).toNat)
  case atStart =>
    refine ⟨0, none, 0, none, 0, [], [], by omega, rfl, hid ⟨HX02.out.cell HB0.out, HX02.out.cell HB1.out, fun i => ?_, OwnS.nil, OwnS.nil, World.grownBy.refl _ _⟩, hid rfl, hid rfl⟩
    exact (HX02.out.frozen (p := ⟨w.heap.size + 1, i, none⟩) (by have := HS0.out; show w.heap.size + 1 < W0.heap.size; omega)).trans (HFR.out _ i (by omega) (by omega))
  case round =>
    obtain ⟨j, A1, c1, A2, c2, M, H, hj, rfl, HI1, HMe, HHe⟩ := hrel
    by_cases h1 : j < N
    · obtain ⟨x, hx⟩ : ∃ x, K[j]? = some x := ⟨_, List.getElem?_eq_getElem (by have := HN.out; omega)⟩
      have hks := HKS.out.keep (w' := wr) (fun b hb hc => HI1.out.gr.block b hc.lt (by simp; omega))
      obtain ⟨b, off, rfl, cx, hx32⟩ := hks.num_at hx
      have hMR := HM2.out.kept HI1.out.gr (by simp; exact hmB)
      have HMR := hid hMR
      have hsn : (K.take (j + 1)).filter (fun a => decide (0 < tot p a)) = (K.take j).filter (fun a => decide (0 < tot p a)) ++ (if 0 < tot p x then [x] else []) := by
        rw [take_snoc' hx, List.filter_append, List.filter_cons]
        by_cases h : 0 < tot p x <;> simp [h]
      have hlk := cntF_look p x
      have hp2 := capH_pos (tot p x)
      have hrl := fun W S => capH_i64 W S (tot p x)
      obtain ⟨y, hh⟩ : ∃ y, capH (tot p x) = y := ⟨_, rfl⟩
      rw [hh] at hlk hp2
      simp only [hh] at hrl
      have HRL := hid hrl
      have HLK := hid hlk
      have HH := hid hh
      have hMl : M.length ≤ 1000 := by
        have h3 := List.length_filter_le (fun a => decide (0 < tot p a)) (K.take j)
        rw [List.length_take] at h3
        rw [HMe.out]
        omega
      have hHl : H.length ≤ 1000 := by rw [HHe.out, List.length_map]; exact hMl
      clear hx hks hMR hlk hh hrl
      by_cases h2 : 0 < tot p x
      · rw [if_pos h2] at hsn
        have HSN := hid hsn; clear hsn
        have hpos : 0 < y := hp2.2 h2
        have e0 := HI1.out.e0
        have e1 := HI1.out.e1
        have hBw : w.heap.size + 1 < wr.heap.size := by have := HI1.out.gr.size; have := HS2.out; omega
        clear hp2 h2
        go_wp2_with (first
          | (at_lookup; refine wpList_look _ rfl (.tmp 14) (.tmp 15) 65 rfl 3 Try.underlying65 (.int .i64 0) (zero_int _) (u32K Try.underlying36) m q (cntF p) rfl HMR.out x rfl hx32 (.int .i64 y) HLK.out ?_)
          | (at_builtin; refine wpList_app1s rfl (.tmp 19) (.tmp 21) 23 rfl w2.heap.size 36 i0 _ 1 4 Try.underlying23 HI.out HZ0.out HZ1.out HZ2.out rfl u32R rfl (.slice A1 M.length c1) M rfl HI1.out.o1 wr.heap.size rfl x rfl ⟨rfl, hx32⟩ (by omega) (by omega) (by exact HI1.out.gr.size) ?_; intro A5 c5 w5 hown5 hg5; have HG5 := hid (((Ext.refl wr).alloc (.cells #[.int .u32 x] 36)).grownBy (Value.slice A1 M.length c1).ownBlock |>.andThen hg5 (fun j hj => .inr hj)); obtain ⟨hcv, x0, x1, xf0, xf1⟩ := HI1.out.blocks (by have := HS2.out; omega) (Nat.le_refl _) HG5.out (by simp) hown5; have HC5 := hid hcv; have HM5 := hid ((HMR.out.kept HG5.out (fun e => by have := (HI1.out.o1.block m e.symm).1; have := HMM.out.lt; have := HS2.out; omega)).setCell (a := ⟨w.heap.size + 1, 0, none⟩) hmB (.slice A5 (M.length + 1) c5)); clear hown5 hg5 hcv e0 e1)
          | (at_lookup; refine wpList_look _ rfl (.tmp 26) (.tmp 27) 65 rfl 3 Try.underlying65 (.int .i64 0) (zero_int _) (u32K Try.underlying36) m q (cntF p) rfl HM5.out x rfl hx32 (.int .i64 y) HLK.out ?_)
          | (at_builtin; refine wpList_app1s rfl (.tmp 25) (.tmp 29) 27 rfl w2.heap.size 3 j0 _ 1 8 Try.underlying27 HJ.out HJ0.out HJ1.out HJ2.out rfl i64R rfl (.slice A2 H.length c2) H rfl HC5.out.o2 w5.heap.size (by simp) (y : Int) rfl (HRL.out _ _) (by omega) (by omega) (by simp; exact Nat.le_trans HI1.out.gr.size HG5.out.size) ?_; intro A7 c7 w7 hown7 hg7; have HG7 := hid (((Ext.refl _).alloc _).grownBy (Value.slice A2 H.length c2).ownBlock |>.andThen hg7 (fun j hj => .inr hj)); obtain ⟨hcv, y0, y1, yf0, yf1⟩ := HC5.out.hits (by have := HS2.out; omega) (Nat.le_refl _) HG7.out (by simp) hown7; have HC7 := hid hcv; clear hown7 hg7 hcv)
          | fail)
        first
          | go_roundw
          | refine ⟨?rel, ?measure⟩
        case rel => exact ⟨j + 1, A5, c5, A7, c7, M ++ [x], H ++ [(y : Int)], by omega, by go_num, HC7, hid (by rw [HSN.out, HMe.out]), hid (by rw [List.map_append, ← HHe.out, List.map_cons, HH.out]; rfl)⟩
        case measure => simp [intOf]; omega
      · rw [if_neg h2, List.append_nil] at hsn
        have HSN := hid hsn; clear hsn
        have hpos : ¬ (0 < y) := fun h => h2 (hp2.1 h)
        clear hp2 h2
        go_wp2_with (first
          | (at_lookup; refine wpList_look _ rfl (.tmp 14) (.tmp 15) 65 rfl 3 Try.underlying65 (.int .i64 0) (zero_int _) (u32K Try.underlying36) m q (cntF p) rfl HMR.out x rfl hx32 (.int .i64 y) HLK.out ?_)
          | fail)
        first
          | go_roundw
          | refine ⟨?rel, ?measure⟩
        case rel => exact ⟨j + 1, A1, c1, A2, c2, M, H, by omega, by go_num, HI1, hid (by rw [HSN.out, HMe.out]), HHe⟩
        case measure => simp [intOf]; omega
    · obtain rfl : j = N := by omega
      have hM : M = covB p := by
        rw [HMe.out, List.take_of_length_le (by have := HN.out; omega), ← HK.out]
        exact covB_keys p
      have hH : H = covH p := by rw [HHe.out, hM]; rfl
      have hBl : w.heap.size < w2.heap.size := by have := HS2.out; omega
      have hgr := HI1.out.gr
      have hwr := hgr.size
      have hne : some w.heap.size ≠ some (w.heap.size + 1) := by simp
      have e0 := HI1.out.e0
      have e1 := HI1.out.e1
      have r0 := (grown_cell hgr (q := ⟨w.heap.size, 0, none⟩) hBl hne).trans (HX02.out.cell HR0.out)
      have r1 := (grown_cell hgr (q := ⟨w.heap.size, 1, none⟩) hBl hne).trans (HX02.out.cell HR1.out)
      have hlt0 : w.heap.size < W0.heap.size := by have := HS0.out; omega
      have f0 := (grown_frozen hgr (q := ⟨w.heap.size, 0, none⟩) hBl hne).trans ((HX02.out.frozen (p := ⟨w.heap.size, 0, none⟩) hlt0).trans (HFR.out _ 0 (by omega) (by omega)))
      have f1 := (grown_frozen hgr (q := ⟨w.heap.size, 1, none⟩) hBl hne).trans ((HX02.out.frozen (p := ⟨w.heap.size, 1, none⟩) hlt0).trans (HFR.out _ 1 (by omega) (by omega)))
      have hw2 : w.heap.size < wr.heap.size := by omega
      have HGR := hid hgr
      have HMC := hid hM
      have HHC := hid hH
      clear hM hH hgr
      go_wp2
      refine bodyPost_ret (v := .agg #[.slice A1 M.length c1, .slice A2 H.length c2]) (by simp [results, Try.results35, go_sem, World.cell?_setCell_same, World.cell?_setCell_other, r0, r1]) rfl ?_
      have hL1 : M.length = (covB p).length := by rw [← HMC.out]
      have hL2 : H.length = (covB p).length := by rw [HHC.out, covH, List.length_map]
      have o1 := HI1.out.o1
      have o2 := HI1.out.o2
      have b1 : ∀ k, (Value.slice A1 M.length c1).ownBlock = some k → w.heap.size < k := fun k hk => by have := (o1.block k hk).1; omega
      have b2 : ∀ k, (Value.slice A2 H.length c2).ownBlock = some k → w.heap.size < k := fun k hk => by have := (o2.block k hk).1; omega
      rw [hL1] at o1 b1 ⊢
      rw [hL2] at o2 b2 ⊢
      rw [HMC.out] at o1
      rw [HHC.out] at o2
      refine ⟨((((HE0.out.trans HX02.out).grown HGR.out (fun k hk => by cases hk; omega)).setCell (by simp) _).setCell (by simp) _), A1, c1, A2, c2, rfl, ?_, ?_⟩
      · exact ((o1.set_far (fun e => by have := b1 _ e; simp at this) (fun _ h => h.elim)).set_far (fun e => by have := b1 _ e; simp at this) (fun _ h => h.elim)).slT (fun _ h => h.elim) (fun k hk => Nat.le_of_lt (b1 k hk))
      · exact ((o2.set_far (fun e => by have := b2 _ e; simp at this) (fun _ h => h.elim)).set_far (fun e => by have := b2 _ e; simp at this) (fun _ h => h.elim)).slT (fun _ h => h.elim) (fun k hk => Nat.le_of_lt (b2 k hk))
end Go.Proofs.Ytcddmggefmfkkaa
