/- The reference's memory: write. -/
import Derived.Test.YtjfdbfbdkjfgpaaR9B
import Derived.Test.YtjfdbfbdkjfgpaaSlc
namespace Go.Proofs.Ytjfdbfbdkjfgpaa
open Go.RowKit Go.Deco
set_option linter.unusedSimpArgs false
set_option linter.unusedVariables false

/-- The list with one byte written. -/
def insCell : List (Nat × Nat) → Nat → Nat → List (Nat × Nat)
  | [], a, x => [(a, x)]
  | p :: r, a, x => if p.1 < a then p :: insCell r a x else if p.1 = a then (a, x) :: r else (a, x) :: p :: r
theorem insCell_at : ∀ {cs : List (Nat × Nat)} {a x k : Nat}, (∀ j y, j < k → cs[j]? = some y → y.1 < a) → k ≤ cs.length → insCell cs a x = cs.take k ++ insCell (cs.drop k) a x
  | _, _, _, 0, _, _ => by simp
  | [], _, _, k + 1, _, h => by simp at h
  | p :: r, a, x, k + 1, h, hk => by
    have h0 := h 0 p (by omega) rfl
    have := insCell_at (cs := r) (a := a) (x := x) (k := k) (fun j z hj hz => h (j + 1) z (by omega) (by simpa using hz)) (by simpa using hk)
    simp [insCell, h0, this]
theorem insCell_new {cs : List (Nat × Nat)} {a x k : Nat} (h : ∀ j y, j < k → cs[j]? = some y → y.1 < a) (hk : k ≤ cs.length) (hn : ∀ y, cs[k]? = some y → a < y.1) : insCell cs a x = (cs.take k ++ [(a, x)]) ++ cs.drop k := by
  rw [insCell_at h hk, List.append_assoc]
  congr 1
  cases hd : cs.drop k with
  | nil => rfl
  | cons y r =>
    have hy : cs[k]? = some y := by
      have := congrArg (fun m => m[0]?) hd
      simpa using this
    have := hn y hy
    rw [insCell, if_neg (by omega), if_neg (by omega)]
    rfl
theorem insCell_old {cs : List (Nat × Nat)} {a x k b : Nat} (h : ∀ j y, j < k → cs[j]? = some y → y.1 < a) (hk : cs[k]? = some (a, b)) : insCell cs a x = (cs.take k ++ [(a, x)]) ++ cs.drop (k + 1) := by
  have hlt := (List.getElem?_eq_some_iff.1 hk).1
  rw [insCell_at h (by omega), List.append_assoc]
  congr 1
  rw [drop_cons' hk, insCell, if_neg (by simp), if_pos rfl]
  rfl
theorem insCell_length : ∀ (cs : List (Nat × Nat)) (a x : Nat), (insCell cs a x).length ≤ cs.length + 1
  | [], a, x => by simp [insCell]
  | p :: r, a, x => by
    have := insCell_length r a x
    rw [insCell]
    split
    · simp; omega
    · split <;> simp
def AscC (cs : List (Nat × Nat)) : Prop := cs.Pairwise (fun p q => p.1 < q.1)
theorem lookIn_none : ∀ {cs : List (Nat × Nat)} {a : Nat}, (∀ p ∈ cs, a < p.1) → lookIn cs a = none
  | [], _, _ => rfl
  | p :: r, a, h => by
    have := h p (by simp)
    rw [lookIn, if_neg (by omega)]
    exact lookIn_none fun q hq => h q (by simp [hq])
theorem lookIn_ins : ∀ {cs : List (Nat × Nat)} {a x j : Nat}, AscC cs → lookIn (insCell cs a x) j = if j = a then some x else lookIn cs j
  | [], a, x, j, _ => by
    simp only [insCell, lookIn]
    by_cases h : a = j
    · rw [if_pos h, if_pos h.symm]
    · rw [if_neg h, if_neg (fun e => h e.symm)]
  | p :: r, a, x, j, h => by
    have h' := List.pairwise_cons.1 h
    rw [insCell]
    split
    · rename_i h1
      rw [lookIn, lookIn, lookIn_ins (cs := r) h'.2]
      by_cases h2 : p.1 = j
      · rw [if_pos h2, if_neg (by omega), if_pos h2]
      · rw [if_neg h2, if_neg h2]
    · split
      · rename_i h1 h2
        rw [lookIn, lookIn]
        by_cases h3 : a = j
        · rw [if_pos h3, if_pos h3.symm]
        · rw [if_neg h3, if_neg (fun e => h3 e.symm), if_neg (by omega)]
      · rename_i h1 h2
        rw [lookIn]
        by_cases h3 : a = j
        · rw [if_pos h3, if_pos h3.symm]
        · rw [if_neg h3, if_neg (fun e => h3 e.symm)]
theorem insCell_mem : ∀ {cs : List (Nat × Nat)} {a x : Nat} {p : Nat × Nat}, p ∈ insCell cs a x → p = (a, x) ∨ p ∈ cs
  | [], a, x, p, h => by simpa [insCell] using h
  | q :: r, a, x, p, h => by
    rw [insCell] at h
    split at h
    · rcases List.mem_cons.1 h with h | h
      · exact .inr (by rw [h]; simp)
      · rcases insCell_mem h with h | h
        · exact .inl h
        · exact .inr (by simp [h])
    · split at h
      · rcases List.mem_cons.1 h with h | h
        · exact .inl h
        · exact .inr (by simp [h])
      · rcases List.mem_cons.1 h with h | h
        · exact .inl h
        · exact .inr h
theorem insCell_asc : ∀ {cs : List (Nat × Nat)} {a x : Nat}, AscC cs → AscC (insCell cs a x)
  | [], a, x, _ => by simp [insCell, AscC]
  | p :: r, a, x, h => by
    have h' := List.pairwise_cons.1 h
    rw [insCell]
    split
    · rename_i h1
      refine List.pairwise_cons.2 ⟨fun q hq => ?_, insCell_asc (cs := r) h'.2⟩
      rcases insCell_mem hq with rfl | hq
      · exact h1
      · exact h'.1 q hq
    · split
      · rename_i h1 h2
        refine List.pairwise_cons.2 ⟨fun q hq => ?_, h'.2⟩
        have := h'.1 q hq
        show a < q.1
        omega
      · rename_i h1 h2
        refine List.pairwise_cons.2 ⟨fun q hq => ?_, h⟩
        show a < q.1
        rcases List.mem_cons.1 hq with rfl | hq
        · omega
        · have := h'.1 q hq
          omega

theorem info_cell : (Try.prog.info? 89).map (fun i => (i.zero, i.size, i.bytes)) = some (some (.agg #[.int .u32 0, .int .u8 0]), 2, 8) := by kernel_rfl

def RefIs (w : World) (lv : Value) (cs : List (Nat × Nat)) (e : Ending) (w' : World) : Prop :=
  Ext w w' ∧ ∃ A c, e = .returned (.agg #[.bool true, lv, .slice A cs.length c]) ∧ Sl cellR w' (fun b => w.heap.size ≤ b) (.slice A cs.length c) cs

set_option maxRecDepth 100000 in
set_option maxHeartbeats 2000000 in
theorem write9_any (wo w : World) (ho : Ext wo w) (LA : Option Addr) (n c : Nat) (CA : Option Addr) (cm cd : Nat) (cs : List (Nat × Nat)) (hc : Sl cellR wo All (.slice CA cm cd) cs) (hm : cm ≤ 1000000)
    (a x : Nat) (ha : a < 4294967296) (hx : x < 256) :
    Calls Try.prog 40 #[.agg #[.bool true, .slice LA n c, .slice CA cm cd], .int .u32 a, .int .u8 x] w (RefIs w (.slice LA n c) (insCell cs a x)) := by
  have hcl := hc.len
  obtain ⟨hmc, hdm⟩ := hc.cap
  obtain ⟨i0, hi, hz0, hz1, hz2⟩ := info_parts info_cell
  obtain ⟨L, hL⟩ : ∃ L, insCell cs a x = L := ⟨_, rfl⟩
  rw [hL]
  have HL := hid hL; clear hL
  have HI := hid hi; clear hi
  have HZ0 := hid hz0; clear hz0
  have HZ1 := hid hz1; clear hz1
  have HZ2 := hid hz2; clear hz2
  have HC := hid hc; clear hc
  have HCL := hid hcl; clear hcl
  have HO := hid ho; clear ho
  obtain ⟨W0, hW0⟩ : ∃ W0, ((w.alloc (Obj.cells #[.bool true, .slice LA n c, .slice CA cm cd] 45)).alloc (Obj.cells #[.bool false, .slice none 0 0, .slice none 0 0] 45)) = W0 := ⟨_, rfl⟩
  have hE : Ext w W0 := by rw [← hW0]; exact ((Ext.refl w).alloc _).alloc _
  have hsz : W0.heap.size = w.heap.size + 2 := by rw [← hW0]; simp
  have b0 : W0.cell? ⟨w.heap.size, 0, none⟩ = some (.bool true) := by rw [← hW0]; simp
  have b1 : W0.cell? ⟨w.heap.size, 1, none⟩ = some (.slice LA n c) := by rw [← hW0]; simp
  have b2 : W0.cell? ⟨w.heap.size, 2, none⟩ = some (.slice CA cm cd) := by rw [← hW0]; simp
  have fq : ∀ j, W0.frozen? ⟨w.heap.size, j, none⟩ = false := by intro j; rw [← hW0]; simp
  have r0 : W0.cell? ⟨w.heap.size + 1, 0, none⟩ = some (.bool false) := by rw [← hW0]; simp
  have r1 : W0.cell? ⟨w.heap.size + 1, 1, none⟩ = some (.slice none 0 0) := by rw [← hW0]; simp
  have r2 : W0.cell? ⟨w.heap.size + 1, 2, none⟩ = some (.slice none 0 0) := by rw [← hW0]; simp
  have fr : ∀ j, W0.frozen? ⟨w.heap.size + 1, j, none⟩ = false := by intro j; rw [← hW0]; simp
  have HE := hid hE; clear hE
  have HSZ := hid hsz; clear hsz
  have HB := hid (And.intro b0 (And.intro b1 b2))
  have HR := hid (And.intro r0 (And.intro r1 (And.intro r2 fr)))
  have HFQ := hid fq
  have hlt0 : w.heap.size < W0.heap.size := by have := HSZ.out; omega
  clear r0 r1 r2 fr fq
  go_enter Try.func40, Try.ntmps40
  go_wp2
  go_loop [7] (fun i => ∃ k : Nat, k ≤ cm ∧ i = .int .i64 k ∧ Hid (∀ j y, j < k → cs[j]? = some y → y.1 < a)) (fun i => cm - (intOf i).toNat)
  case atStart => exact ⟨0, by omega, rfl, hid (fun j y hj _ => by omega)⟩
  case round =>
    obtain ⟨k, hk, rfl, hb⟩ := hrel
    have HKL := hid (show (cs.take k).length = k by rw [List.length_take]; have := HCL.out; omega)
    by_cases h1 : k < cm
    · obtain ⟨⟨y, z⟩, hy⟩ : ∃ y, cs[k]? = some y := ⟨_, List.getElem?_eq_getElem (by have := HCL.out; omega)⟩
      obtain ⟨b, off, rfl, c0, c1, -, -⟩ := Sl_cell_at HC.out hy
      have c0 := HO.out.cell c0
      have c0 := HE.out.cell c0
      clear c1
      have HY := hid hy; clear hy
      by_cases h2 : y < a
      · go_wp2
        go_round
        case rel =>
          refine ⟨k + 1, by omega, by go_num, hid fun j s hj hs => ?_⟩
          rcases Nat.lt_or_ge j k with h | h
          · exact hb.out j s h hs
          · obtain rfl : j = k := by omega
            have := HY.out.symm.trans hs
            injection this with this
            rw [← this]; exact h2
        case measure => simp [intOf]; omega
      · by_cases h3 : y = a
        · have h4 := h3.symm
          subst h4
          have hee : ((a : Int) == (a : Int)) = true := by simp
          have hnew : Hid (insCell cs a x = (cs.take k ++ [(a, x)]) ++ cs.drop (k + 1)) := hid (insCell_old hb.out HY.out)
          clear hb
          go_upto_region 4 with (fail)
          clear hW0
          go_wp2_with (first
            | ((with_reducible refine wpList_at_slice 43 (.tmp 28) none (some (.tmp 29)) rfl rfl ?_); refine wpList_to rfl 43 89 (.tmp 28) (.tmp 29) rfl Try.underlying43 i0 HI.out cellR HZ1.out rfl HC.out k rfl hk ?_; intro A2 hA2; have HA2 := hid hA2; clear hA2)
            | (at_builtin; refine wpList_appS rfl (.tmp 26) (.tmp 30) 43 rfl W0.heap.size 89 i0 _ 2 8 Try.underlying43 HI.out HZ0.out HZ1.out HZ2.out rfl cellR rfl _ [] rfl (OwnS.fresh0 (T := All) W0 (Nat.le_refl _)) A2 k cd (cs.take k) (fun b => b < W0.heap.size) rfl (((HA2.out.ext (HO.out.trans HE.out)).mono (fun b _ h => h.lt)).ext ((Ext.refl W0).alloc _)) (fun _ hb _ => ⟨trivial, own_ne hb⟩) (by simp; omega) (by simp; omega) (by simp) ?_; intro A3 c3 w3 hown3 hg3 hloc; have HO3 : Hid (OwnS cellR w3 W0.heap.size 89 All (.slice A3 k c3) (cs.take k)) := hid (by simpa using hown3); clear hown3; have HX3 := hid (((Ext.refl W0).alloc _).grown hg3 (fun k hk => by rw [own_at hk]; simp)); clear hg3 hloc b0 b1 b2; obtain ⟨b0, b1, b2⟩ := HB.out; have b0 := HX3.out.cell b0; have b1 := HX3.out.cell b1; have b2 := HX3.out.cell b2; simp only [List.length_nil, Nat.zero_add])
            | (at_builtin; refine wpList_app1 rfl (.tmp 32) (.tmp 36) 43 rfl W0.heap.size 89 i0 _ 2 8 Try.underlying43 HI.out HZ0.out HZ1.out HZ2.out rfl cellR rfl (.slice A3 k c3) (cs.take k) rfl HO3.out (a, x) rfl ⟨rfl, ha, hx⟩ (by have := HKL.out; omega) (by have := HKL.out; omega) (by exact HX3.out.size) ?_; intro A4 c4 w4 hown4 hg4; rw [HKL.out] at hown4; have hx4 := (HX3.out.alloc _).grown hg4 (fun k hk => (HO3.out.block _ hk).1); have HO4 := hid hown4; have HX4 := hid hx4; clear hown4 hg4 hx4 b0 b1 b2; obtain ⟨b0, b1, b2⟩ := HB.out; have b0 := HX4.out.cell b0; have b1 := HX4.out.cell b1; have b2 := HX4.out.cell b2; have c0 := HX4.out.cell c0; rw [HKL.out])
            | ((with_reducible refine wpList_at_slice 43 (.tmp 57) (some (.tmp 58)) none rfl rfl ?_); refine wpList_from rfl 43 89 (.tmp 57) (.tmp 58) rfl Try.underlying43 i0 HI.out cellR HZ1.out rfl HC.out (k + 1) (by first | rfl | (simp; done)) (by omega) ?_; intro A5 hA5; have HA5 := hid hA5; clear hA5)
            | (at_builtin; refine wpList_appS rfl (.tmp 55) (.tmp 59) 43 rfl W0.heap.size 89 i0 _ 2 8 Try.underlying43 HI.out HZ0.out HZ1.out HZ2.out rfl cellR rfl (.slice A4 (k + 1) c4) (cs.take k ++ [(a, x)]) rfl HO4.out A5 (cm - (k + 1)) (cd - (k + 1)) (cs.drop (k + 1)) (fun b => b < W0.heap.size) rfl (((HA5.out.ext (HO.out.trans HE.out)).mono (fun b _ h => h.lt)).ext HX4.out) (fun b hb _ => ⟨trivial, fun e => by have := HO4.out.block b e.symm; omega⟩) (by have := HKL.out; simp; omega) (by have := HKL.out; simp; omega) (by exact HX4.out.size) ?_; intro A6 c6 w6 hown6 hg6 hloc; have HX6 := hid (HX4.out.grown hg6 (fun k hk => (HO4.out.block _ hk).1)); have HO6 := hid hown6; clear hown6 hg6 hloc b0 b1 b2; obtain ⟨b0, b1, b2⟩ := HB.out; have b0 := HX6.out.cell b0; have b1 := HX6.out.cell b1; have b2 := HX6.out.cell b2; obtain ⟨r0, r1, r2, fr⟩ := HR.out; have r0 := HX6.out.cell r0; have r1 := HX6.out.cell r1; have r2 := HX6.out.cell r2; have hsz6 : w.heap.size + 1 < w6.heap.size := (by have := HX6.out.size; have := HSZ.out; omega); have f0 := (HX6.out.frozen (p := ⟨w.heap.size + 1, 0, none⟩) (by have := HSZ.out; simp; omega)).trans (fr 0); have f1 := (HX6.out.frozen (p := ⟨w.heap.size + 1, 1, none⟩) (by have := HSZ.out; simp; omega)).trans (fr 1); have f2 := (HX6.out.frozen (p := ⟨w.heap.size + 1, 2, none⟩) (by have := HSZ.out; simp; omega)).trans (fr 2); have g2 := (HX6.out.frozen (p := ⟨w.heap.size, 2, none⟩) (by have := HSZ.out; simp; omega)).trans (HFQ.out 2); clear fr; rw [List.length_append, HKL.out])
            | fail)
          have e := hnew.out
          rw [HL.out] at e
          have ho := HO6.out
          rw [← e] at ho
          have e2 : k + 1 + (cm - (k + 1)) = L.length := by have h := ho.len; rw [List.length_append, HKL.out] at h; exact h
          have e3 : (cs.take k ++ [(a, x)]).length + (cm - (k + 1)) = L.length := ho.len
          rw [e3] at ho
          rw [e2]
          refine bodyPost_ret (v := .agg #[.bool true, .slice LA n c, .slice A6 L.length c6]) (by simp [results, Try.results40, go_sem, World.cell?_setCell_same, World.cell?_setCell_other, r0, r1, r2]) rfl ?_
          refine ⟨((((HE.out.trans HX6.out).setCell (by simp) _).setCell (by simp) _).setCell (by simp) _).setCell (by simp) _, A6, c6, rfl, ?_⟩
          have hsl : Sl cellR w6 (fun b => w.heap.size + 2 ≤ b) (.slice A6 L.length c6) L := ho.flat_sl (fun _ _ _ _ _ _ h => h) (fun b hb => by have := HSZ.out; omega)
          exact (hsl.keep fun b hb _ => by rw [Below.heap_setCell _ _ _ _ (by simp; omega), Below.heap_setCell _ _ _ _ (by simp; omega), Below.heap_setCell _ _ _ _ (by simp; omega), Below.heap_setCell _ _ _ _ (by simp; omega)]).mono (fun b hb _ => by omega)
        · have hee : ((y : Int) == (a : Int)) = false := by simp; omega
          have hnew : Hid (insCell cs a x = (cs.take k ++ [(a, x)]) ++ cs.drop k) := hid (insCell_new hb.out (by have := HCL.out; omega) (fun s hs => by have := HY.out.symm.trans hs; injection this with this; rw [← this]; show a < y; omega))
          clear hb
          go_upto_region 4 with (fail)
          clear hW0
          go_wp2_with (first
            | ((with_reducible refine wpList_at_slice 43 (.tmp 28) none (some (.tmp 29)) rfl rfl ?_); refine wpList_to rfl 43 89 (.tmp 28) (.tmp 29) rfl Try.underlying43 i0 HI.out cellR HZ1.out rfl HC.out k rfl hk ?_; intro A2 hA2; have HA2 := hid hA2; clear hA2)
            | (at_builtin; refine wpList_appS rfl (.tmp 26) (.tmp 30) 43 rfl W0.heap.size 89 i0 _ 2 8 Try.underlying43 HI.out HZ0.out HZ1.out HZ2.out rfl cellR rfl _ [] rfl (OwnS.fresh0 (T := All) W0 (Nat.le_refl _)) A2 k cd (cs.take k) (fun b => b < W0.heap.size) rfl (((HA2.out.ext (HO.out.trans HE.out)).mono (fun b _ h => h.lt)).ext ((Ext.refl W0).alloc _)) (fun _ hb _ => ⟨trivial, own_ne hb⟩) (by simp; omega) (by simp; omega) (by simp) ?_; intro A3 c3 w3 hown3 hg3 hloc; have HO3 : Hid (OwnS cellR w3 W0.heap.size 89 All (.slice A3 k c3) (cs.take k)) := hid (by simpa using hown3); clear hown3; have HX3 := hid (((Ext.refl W0).alloc _).grown hg3 (fun k hk => by rw [own_at hk]; simp)); clear hg3 hloc b0 b1 b2; obtain ⟨b0, b1, b2⟩ := HB.out; have b0 := HX3.out.cell b0; have b1 := HX3.out.cell b1; have b2 := HX3.out.cell b2; simp only [List.length_nil, Nat.zero_add])
            | (at_builtin; refine wpList_app1 rfl (.tmp 32) (.tmp 36) 43 rfl W0.heap.size 89 i0 _ 2 8 Try.underlying43 HI.out HZ0.out HZ1.out HZ2.out rfl cellR rfl (.slice A3 k c3) (cs.take k) rfl HO3.out (a, x) rfl ⟨rfl, ha, hx⟩ (by have := HKL.out; omega) (by have := HKL.out; omega) (by exact HX3.out.size) ?_; intro A4 c4 w4 hown4 hg4; rw [HKL.out] at hown4; have hx4 := (HX3.out.alloc _).grown hg4 (fun k hk => (HO3.out.block _ hk).1); have HO4 := hid hown4; have HX4 := hid hx4; clear hown4 hg4 hx4 b0 b1 b2; obtain ⟨b0, b1, b2⟩ := HB.out; have b0 := HX4.out.cell b0; have b1 := HX4.out.cell b1; have b2 := HX4.out.cell b2; have c0 := HX4.out.cell c0; rw [HKL.out])
            | ((with_reducible refine wpList_at_slice 43 (.tmp 57) (some (.tmp 58)) none rfl rfl ?_); refine wpList_from rfl 43 89 (.tmp 57) (.tmp 58) rfl Try.underlying43 i0 HI.out cellR HZ1.out rfl HC.out (k) (by first | rfl | (simp; done)) (by omega) ?_; intro A5 hA5; have HA5 := hid hA5; clear hA5)
            | (at_builtin; refine wpList_appS rfl (.tmp 55) (.tmp 59) 43 rfl W0.heap.size 89 i0 _ 2 8 Try.underlying43 HI.out HZ0.out HZ1.out HZ2.out rfl cellR rfl (.slice A4 (k + 1) c4) (cs.take k ++ [(a, x)]) rfl HO4.out A5 (cm - (k)) (cd - (k)) (cs.drop (k)) (fun b => b < W0.heap.size) rfl (((HA5.out.ext (HO.out.trans HE.out)).mono (fun b _ h => h.lt)).ext HX4.out) (fun b hb _ => ⟨trivial, fun e => by have := HO4.out.block b e.symm; omega⟩) (by have := HKL.out; simp; omega) (by have := HKL.out; simp; omega) (by exact HX4.out.size) ?_; intro A6 c6 w6 hown6 hg6 hloc; have HX6 := hid (HX4.out.grown hg6 (fun k hk => (HO4.out.block _ hk).1)); have HO6 := hid hown6; clear hown6 hg6 hloc b0 b1 b2; obtain ⟨b0, b1, b2⟩ := HB.out; have b0 := HX6.out.cell b0; have b1 := HX6.out.cell b1; have b2 := HX6.out.cell b2; obtain ⟨r0, r1, r2, fr⟩ := HR.out; have r0 := HX6.out.cell r0; have r1 := HX6.out.cell r1; have r2 := HX6.out.cell r2; have hsz6 : w.heap.size + 1 < w6.heap.size := (by have := HX6.out.size; have := HSZ.out; omega); have f0 := (HX6.out.frozen (p := ⟨w.heap.size + 1, 0, none⟩) (by have := HSZ.out; simp; omega)).trans (fr 0); have f1 := (HX6.out.frozen (p := ⟨w.heap.size + 1, 1, none⟩) (by have := HSZ.out; simp; omega)).trans (fr 1); have f2 := (HX6.out.frozen (p := ⟨w.heap.size + 1, 2, none⟩) (by have := HSZ.out; simp; omega)).trans (fr 2); have g2 := (HX6.out.frozen (p := ⟨w.heap.size, 2, none⟩) (by have := HSZ.out; simp; omega)).trans (HFQ.out 2); clear fr; rw [List.length_append, HKL.out])
            | fail)
          have e := hnew.out
          rw [HL.out] at e
          have ho := HO6.out
          rw [← e] at ho
          have e2 : k + 1 + (cm - (k)) = L.length := by have h := ho.len; rw [List.length_append, HKL.out] at h; exact h
          have e3 : (cs.take k ++ [(a, x)]).length + (cm - (k)) = L.length := ho.len
          rw [e3] at ho
          rw [e2]
          refine bodyPost_ret (v := .agg #[.bool true, .slice LA n c, .slice A6 L.length c6]) (by simp [results, Try.results40, go_sem, World.cell?_setCell_same, World.cell?_setCell_other, r0, r1, r2]) rfl ?_
          refine ⟨((((HE.out.trans HX6.out).setCell (by simp) _).setCell (by simp) _).setCell (by simp) _).setCell (by simp) _, A6, c6, rfl, ?_⟩
          have hsl : Sl cellR w6 (fun b => w.heap.size + 2 ≤ b) (.slice A6 L.length c6) L := ho.flat_sl (fun _ _ _ _ _ _ h => h) (fun b hb => by have := HSZ.out; omega)
          exact (hsl.keep fun b hb _ => by rw [Below.heap_setCell _ _ _ _ (by simp; omega), Below.heap_setCell _ _ _ _ (by simp; omega), Below.heap_setCell _ _ _ _ (by simp; omega), Below.heap_setCell _ _ _ _ (by simp; omega)]).mono (fun b hb _ => by omega)
    · have hnew : Hid (insCell cs a x = (cs.take k ++ [(a, x)]) ++ cs.drop k) := hid (insCell_new hb.out (by have := HCL.out; omega) (fun z hz => by have := HCL.out; have := (List.getElem?_eq_some_iff.1 hz).1; omega))
      clear hb
      go_upto_region 4 with (fail)
      clear hW0
      go_wp2_with (first
        | ((with_reducible refine wpList_at_slice 43 (.tmp 28) none (some (.tmp 29)) rfl rfl ?_); refine wpList_to rfl 43 89 (.tmp 28) (.tmp 29) rfl Try.underlying43 i0 HI.out cellR HZ1.out rfl HC.out k rfl hk ?_; intro A2 hA2; have HA2 := hid hA2; clear hA2)
        | (at_builtin; refine wpList_appS rfl (.tmp 26) (.tmp 30) 43 rfl W0.heap.size 89 i0 _ 2 8 Try.underlying43 HI.out HZ0.out HZ1.out HZ2.out rfl cellR rfl _ [] rfl (OwnS.fresh0 (T := All) W0 (Nat.le_refl _)) A2 k cd (cs.take k) (fun b => b < W0.heap.size) rfl (((HA2.out.ext (HO.out.trans HE.out)).mono (fun b _ h => h.lt)).ext ((Ext.refl W0).alloc _)) (fun _ hb _ => ⟨trivial, own_ne hb⟩) (by simp; omega) (by simp; omega) (by simp) ?_; intro A3 c3 w3 hown3 hg3 hloc; have HO3 : Hid (OwnS cellR w3 W0.heap.size 89 All (.slice A3 k c3) (cs.take k)) := hid (by simpa using hown3); clear hown3; have HX3 := hid (((Ext.refl W0).alloc _).grown hg3 (fun k hk => by rw [own_at hk]; simp)); clear hg3 hloc b0 b1 b2; obtain ⟨b0, b1, b2⟩ := HB.out; have b0 := HX3.out.cell b0; have b1 := HX3.out.cell b1; have b2 := HX3.out.cell b2; simp only [List.length_nil, Nat.zero_add])
        | (at_builtin; refine wpList_app1 rfl (.tmp 32) (.tmp 36) 43 rfl W0.heap.size 89 i0 _ 2 8 Try.underlying43 HI.out HZ0.out HZ1.out HZ2.out rfl cellR rfl (.slice A3 k c3) (cs.take k) rfl HO3.out (a, x) rfl ⟨rfl, ha, hx⟩ (by have := HKL.out; omega) (by have := HKL.out; omega) (by exact HX3.out.size) ?_; intro A4 c4 w4 hown4 hg4; rw [HKL.out] at hown4; have hx4 := (HX3.out.alloc _).grown hg4 (fun k hk => (HO3.out.block _ hk).1); have HO4 := hid hown4; have HX4 := hid hx4; clear hown4 hg4 hx4 b0 b1 b2; obtain ⟨b0, b1, b2⟩ := HB.out; have b0 := HX4.out.cell b0; have b1 := HX4.out.cell b1; have b2 := HX4.out.cell b2;  rw [HKL.out])
        | ((with_reducible refine wpList_at_slice 43 (.tmp 57) (some (.tmp 58)) none rfl rfl ?_); refine wpList_from rfl 43 89 (.tmp 57) (.tmp 58) rfl Try.underlying43 i0 HI.out cellR HZ1.out rfl HC.out (k) (by first | rfl | (simp; done)) (by omega) ?_; intro A5 hA5; have HA5 := hid hA5; clear hA5)
        | (at_builtin; refine wpList_appS rfl (.tmp 55) (.tmp 59) 43 rfl W0.heap.size 89 i0 _ 2 8 Try.underlying43 HI.out HZ0.out HZ1.out HZ2.out rfl cellR rfl (.slice A4 (k + 1) c4) (cs.take k ++ [(a, x)]) rfl HO4.out A5 (cm - (k)) (cd - (k)) (cs.drop (k)) (fun b => b < W0.heap.size) rfl (((HA5.out.ext (HO.out.trans HE.out)).mono (fun b _ h => h.lt)).ext HX4.out) (fun b hb _ => ⟨trivial, fun e => by have := HO4.out.block b e.symm; omega⟩) (by have := HKL.out; simp; omega) (by have := HKL.out; simp; omega) (by exact HX4.out.size) ?_; intro A6 c6 w6 hown6 hg6 hloc; have HX6 := hid (HX4.out.grown hg6 (fun k hk => (HO4.out.block _ hk).1)); have HO6 := hid hown6; clear hown6 hg6 hloc b0 b1 b2; obtain ⟨b0, b1, b2⟩ := HB.out; have b0 := HX6.out.cell b0; have b1 := HX6.out.cell b1; have b2 := HX6.out.cell b2; obtain ⟨r0, r1, r2, fr⟩ := HR.out; have r0 := HX6.out.cell r0; have r1 := HX6.out.cell r1; have r2 := HX6.out.cell r2; have hsz6 : w.heap.size + 1 < w6.heap.size := (by have := HX6.out.size; have := HSZ.out; omega); have f0 := (HX6.out.frozen (p := ⟨w.heap.size + 1, 0, none⟩) (by have := HSZ.out; simp; omega)).trans (fr 0); have f1 := (HX6.out.frozen (p := ⟨w.heap.size + 1, 1, none⟩) (by have := HSZ.out; simp; omega)).trans (fr 1); have f2 := (HX6.out.frozen (p := ⟨w.heap.size + 1, 2, none⟩) (by have := HSZ.out; simp; omega)).trans (fr 2); have g2 := (HX6.out.frozen (p := ⟨w.heap.size, 2, none⟩) (by have := HSZ.out; simp; omega)).trans (HFQ.out 2); clear fr; rw [List.length_append, HKL.out])
        | fail)
      have e := hnew.out
      rw [HL.out] at e
      have ho := HO6.out
      rw [← e] at ho
      have e2 : k + 1 + (cm - (k)) = L.length := by have h := ho.len; rw [List.length_append, HKL.out] at h; exact h
      have e3 : (cs.take k ++ [(a, x)]).length + (cm - (k)) = L.length := ho.len
      rw [e3] at ho
      rw [e2]
      refine bodyPost_ret (v := .agg #[.bool true, .slice LA n c, .slice A6 L.length c6]) (by simp [results, Try.results40, go_sem, World.cell?_setCell_same, World.cell?_setCell_other, r0, r1, r2]) rfl ?_
      refine ⟨((((HE.out.trans HX6.out).setCell (by simp) _).setCell (by simp) _).setCell (by simp) _).setCell (by simp) _, A6, c6, rfl, ?_⟩
      have hsl : Sl cellR w6 (fun b => w.heap.size + 2 ≤ b) (.slice A6 L.length c6) L := ho.flat_sl (fun _ _ _ _ _ _ h => h) (fun b hb => by have := HSZ.out; omega)
      exact (hsl.keep fun b hb _ => by rw [Below.heap_setCell _ _ _ _ (by simp; omega), Below.heap_setCell _ _ _ _ (by simp; omega), Below.heap_setCell _ _ _ _ (by simp; omega), Below.heap_setCell _ _ _ _ (by simp; omega)]).mono (fun b hb _ => by omega)
end Go.Proofs.Ytjfdbfbdkjfgpaa
