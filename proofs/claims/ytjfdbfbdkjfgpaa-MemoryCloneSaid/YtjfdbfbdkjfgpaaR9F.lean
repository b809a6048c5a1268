/- The reference's memory: Store. -/
import Derived.Test.YtjfdbfbdkjfgpaaR9E
namespace Go.Proofs.Ytjfdbfbdkjfgpaa
open Go.RowKit Go.Deco
set_option linter.unusedSimpArgs false
set_option linter.unusedVariables false

/-- Block g is the memory under way, block g + 1 the result's. -/
structure StoInv (S : Nat → Prop) (w wr : World) (g : Nat) (lv : Value) (A : Option Addr) (m c : Nat) (cs : List (Nat × Nat)) : Prop where
  b0 : wr.cell? ⟨g, 0, none⟩ = some (.bool true)
  b1 : wr.cell? ⟨g, 1, none⟩ = some lv
  b2 : wr.cell? ⟨g, 2, none⟩ = some (.slice A m c)
  fb : ∀ j, wr.frozen? ⟨g, j, none⟩ = false
  r0 : wr.cell? ⟨g + 1, 0, none⟩ = some (.bool false)
  r1 : wr.cell? ⟨g + 1, 1, none⟩ = some (.slice none 0 0)
  r2 : wr.cell? ⟨g + 1, 2, none⟩ = some (.slice none 0 0)
  fr : ∀ j, wr.frozen? ⟨g + 1, j, none⟩ = false
  sl : Sl cellR wr (fun b => (S b ∨ w.heap.size ≤ b) ∧ b ≠ g ∧ b ≠ g + 1) (.slice A m c) cs
  ext : Ext w wr
theorem StoInv.size {S : Nat → Prop} {w wr : World} {g : Nat} {lv : Value} {A : Option Addr} {m c : Nat} {cs : List (Nat × Nat)} (h : StoInv S w wr g lv A m c cs) : g + 1 < wr.heap.size := World.block_lt_of_cell? _ _ h.r0
theorem StoInv.next {S : Nat → Prop} {w wr w' : World} {g : Nat} {lv : Value} {A : Option Addr} {m c : Nat} {cs : List (Nat × Nat)} (h : StoInv S w wr g lv A m c cs) (he : Ext wr w') : StoInv S w w' g lv A m c cs :=
  have hs := h.size
  ⟨he.cell h.b0, he.cell h.b1, he.cell h.b2, fun j => (he.frozen (p := ⟨g, j, none⟩) (by simp; omega)).trans (h.fb j), he.cell h.r0, he.cell h.r1, he.cell h.r2, fun j => (he.frozen (p := ⟨g + 1, j, none⟩) hs).trans (h.fr j), h.sl.ext he, h.ext.trans he⟩
theorem frozen_set (w : World) (p : Addr) (v : Value) (q : Addr) : (w.setCell p v).frozen? q = w.frozen? q := by
  by_cases e : q.block = p.block
  · simp [World.frozen?, World.setCell, Array.getElem?_modify, e]
    cases w.heap[p.block]? with
    | none => rfl
    | some o => cases o <;> rfl
  · exact World.frozen?_of_block (Below.heap_setCell _ _ _ _ e)
/-- The memory under way is overwritten. -/
theorem StoInv.put {S : Nat → Prop} {w wr : World} {g : Nat} {lv : Value} {A A' : Option Addr} {m c m' c' : Nat} {cs cs' : List (Nat × Nat)} (h : StoInv S w wr g lv A m c cs) (hg : w.heap.size ≤ g)
    (hs : Sl cellR wr (fun b => (S b ∨ w.heap.size ≤ b) ∧ b ≠ g ∧ b ≠ g + 1) (.slice A' m' c') cs') :
    StoInv S w (((wr.setCell ⟨g, 0, none⟩ (.bool true)).setCell ⟨g, 1, none⟩ lv).setCell ⟨g, 2, none⟩ (.slice A' m' c')) g lv A' m' c' cs' := by
  obtain ⟨b0, b1, b2, fb, r0, r1, r2, fr, _, ext⟩ := h
  refine ⟨?_, ?_, ?_, fun j => by rw [frozen_set, frozen_set, frozen_set]; exact fb j, ?_, ?_, ?_, fun j => by rw [frozen_set, frozen_set, frozen_set]; exact fr j, ?_, ((ext.setCell hg _).setCell hg _).setCell hg _⟩
  · rw [World.cell?_setCell_other _ _ _ _ (by simp), World.cell?_setCell_other _ _ _ _ (by simp)]
    exact World.cell?_setCell_same _ _ _ b0
  · rw [World.cell?_setCell_other _ _ _ _ (by simp)]
    exact World.cell?_setCell_same _ _ _ ((World.cell?_setCell_other _ _ _ _ (by simp)).trans b1)
  · exact World.cell?_setCell_same _ _ _ ((World.cell?_setCell_other _ _ _ _ (by simp)).trans ((World.cell?_setCell_other _ _ _ _ (by simp)).trans b2))
  · rw [World.cell?_setCell_other _ _ _ _ (by simp), World.cell?_setCell_other _ _ _ _ (by simp), World.cell?_setCell_other _ _ _ _ (by simp)]
    exact r0
  · rw [World.cell?_setCell_other _ _ _ _ (by simp), World.cell?_setCell_other _ _ _ _ (by simp), World.cell?_setCell_other _ _ _ _ (by simp)]
    exact r1
  · rw [World.cell?_setCell_other _ _ _ _ (by simp), World.cell?_setCell_other _ _ _ _ (by simp), World.cell?_setCell_other _ _ _ _ (by simp)]
    exact r2
  · exact hs.keep fun b hb _ => by rw [Below.heap_setCell _ _ _ _ (by simp; exact hb.2.1), Below.heap_setCell _ _ _ _ (by simp; exact hb.2.1), Below.heap_setCell _ _ _ _ (by simp; exact hb.2.1)]
theorem StoInv.out_sl {S : Nat → Prop} {w wr : World} {g : Nat} {lv : Value} {A : Option Addr} {m c : Nat} {cs : List (Nat × Nat)} (h : StoInv S w wr g lv A m c cs) (u0 u1 u2 : Value) :
    Sl cellR (((wr.setCell ⟨g + 1, 0, none⟩ u0).setCell ⟨g + 1, 1, none⟩ u1).setCell ⟨g + 1, 2, none⟩ u2) (fun b => S b ∨ w.heap.size ≤ b) (.slice A m c) cs :=
  (h.sl.keep fun b hb _ => by rw [Below.heap_setCell _ _ _ _ (by simp; exact hb.2.2), Below.heap_setCell _ _ _ _ (by simp; exact hb.2.2), Below.heap_setCell _ _ _ _ (by simp; exact hb.2.2)]).mono (fun b hb _ => hb.1)

def StoreR (S : Nat → Prop) (w : World) (lv : Value) (cs : List (Nat × Nat)) (er : Nat) (e : Ending) (w' : World) : Prop :=
  Ext w w' ∧ ∃ A c, e = .returned (.tuple #[.agg #[.bool true, lv, .slice A cs.length c], .int .i64 er]) ∧ Sl cellR w' (fun b => S b ∨ w.heap.size ≤ b) (.slice A cs.length c) cs

set_option maxRecDepth 100000 in
set_option maxHeartbeats 4000000 in
theorem store9_any (wo w : World) (ho : Ext wo w) (LA : Option Addr) (n c : Nat) (l : List Sec) (hl : Sl secR wo All (.slice LA n c) l) (h0 : secCheck l = 0) (CA : Option Addr) (cm cd : Nat) (cs : List (Nat × Nat)) (S : Nat → Prop) (hc : Sl cellR wo S (.slice CA cm cd) cs)
    (hm : cm ≤ 100000) (a : Nat) (ha : a < 4294967296) (q : Int) (hq1 : -9223372036854775808 ≤ q) (hq2 : q ≤ 9223372036854775807) (x : Nat) (hx : x < 4294967296) :
    Calls Try.prog 20 #[.agg #[.bool true, .slice LA n c, .slice CA cm cd], .int .u32 a, .int .i64 q, .int .u32 x] w (StoreR S w (.slice LA n c) (storeCells (regsOf l) cs a q x) (storeErr (regsOf l) a q)) := by
  have hcl := hc.len
  have hln := hl.len
  have HLN := hid hln; clear hln
  obtain ⟨W0, hW0⟩ : ∃ W0, ((w.alloc (Obj.cells #[.bool true, .slice LA n c, .slice CA cm cd] 45)).alloc (Obj.cells #[.bool false, .slice none 0 0, .slice none 0 0] 45)) = W0 := ⟨_, rfl⟩
  have hE : Ext w W0 := by rw [← hW0]; exact ((Ext.refl w).alloc _).alloc _
  have hI : StoInv S w W0 w.heap.size (.slice LA n c) CA cm cd cs := by
    refine ⟨?_, ?_, ?_, fun j => ?_, ?_, ?_, ?_, fun j => ?_, ?_, hE⟩
    · rw [← hW0]; simp
    · rw [← hW0]; simp
    · rw [← hW0]; simp
    · rw [← hW0]; simp
    · rw [← hW0]; simp
    · rw [← hW0]; simp
    · rw [← hW0]; simp
    · rw [← hW0]; simp
    · exact ((hc.ext ho).mono (S' := fun b => (S b ∨ w.heap.size ≤ b) ∧ b ≠ w.heap.size ∧ b ≠ w.heap.size + 1) (fun b hs hb => ⟨.inl hs, by have := hb.lt; omega⟩)).ext hE
  have HE := hid hE; clear hE
  have HII := hid hI; clear hI
  have HCL := hid hcl; clear hcl
  have HS := hid hl; clear hl
  have HO := hid ho; clear ho
  have H0 := hid h0; clear h0
  have HC := hid hc; clear hc
  obtain ⟨er, her⟩ : ∃ er, storeErr (regsOf l) a q = er := ⟨_, rfl⟩
  rw [her]
  have HER := hid her; clear her
  obtain ⟨L, hL⟩ : ∃ L, storeCells (regsOf l) cs a q x = L := ⟨_, rfl⟩
  rw [hL]
  have HL := hid hL; clear hL
  have same : er ≠ 0 → L = cs := fun h => by rw [← HL.out, storeCells, if_neg (by rw [HER.out]; exact h)]
  have SAME := hid same; clear same
  go_enter Try.func20, Try.ntmps20
  have b0 := HII.out.b0
  go_wp2_with fail
  clear hW0 b0
  refine (isWidth9_any W0 q).mono ?_
  rintro e w' ⟨rfl, rfl⟩
  obtain ⟨z, hz⟩ : ∃ z, okWidth q = z := ⟨_, rfl⟩
  rw [hz]
  have HZ := hid hz
  cases z with
  | false =>
    clear hz
    have e : er = 2 := by rw [← HER.out, storeErr, if_neg (by simp [HZ.out])]
    subst e
    have e2 := SAME.out (by omega)
    obtain ⟨b0, b1, b2, fb, r0, r1, r2, fr, -, -⟩ := HII.out
    have f0 := fr 0
    have f1 := fr 1
    have f2 := fr 2
    have hgs := StoInv.size HII.out
    clear fb fr
    go_wp2
    refine bodyPost_ret (v := .tuple #[.agg #[.bool true, .slice LA n c, .slice CA cm cd], .int .i64 2]) (by simp [results, Try.results20, go_sem, World.cell?_setCell_same, World.cell?_setCell_other, r0, r1, r2]) rfl ?_
    refine ⟨((StoInv.ext HII.out |>.setCell (by simp) _).setCell (by simp) _).setCell (by simp) _, CA, cd, ?_, ?_⟩
    · rw [e2, HCL.out]; rfl
    · rw [e2]; rw [← HCL.out]; exact HII.out.out_sl _ _ _
  | true =>
    have hw := okWidth_cases hz
    clear hz
    obtain ⟨k, hk, hk1, hk2⟩ : ∃ k : Nat, q = k ∧ 1 ≤ k ∧ k ≤ 4 := ⟨q.toNat, by omega, by omega, by omega⟩
    clear hw
    subst hk
    have b0 := HII.out.b0
    have b1 := HII.out.b1
    have b2 := HII.out.b2
    go_wp2_with fail
    refine (rest9_any wo _ (HO.out.trans HE.out) LA n c l HS.out H0.out CA cm cd a ha).mono ?_
    rintro e w1 ⟨rfl, hx1⟩
    have HX1 := hid hx1
    have HI1 := hid (HII.out.next hx1)
    clear hx1 b0 b1 b2
    obtain ⟨rm, hrm⟩ : ∃ rm, roomOf (regsOf l) a = rm := ⟨_, rfl⟩
    rw [hrm]
    have HRM := hid hrm; clear hrm
    by_cases hr : rm < k
    · have e : er = 11 := by
        rw [← HER.out, storeErr, if_pos HZ.out, Int.toNat_natCast, (room_mapped (by omega)).1 (by rw [HRM.out]; exact hr)]
      subst e
      have e2 := SAME.out (by omega)
      obtain ⟨b0, b1, b2, fb, r0, r1, r2, fr, -, -⟩ := HI1.out
      have f0 := fr 0
      have f1 := fr 1
      have f2 := fr 2
      have hgs := StoInv.size HI1.out
      clear fb fr
      go_wp2
      refine bodyPost_ret (v := .tuple #[.agg #[.bool true, .slice LA n c, .slice CA cm cd], .int .i64 11]) (by simp [results, Try.results20, go_sem, World.cell?_setCell_same, World.cell?_setCell_other, r0, r1, r2]) rfl ?_
      refine ⟨((StoInv.ext HI1.out |>.setCell (by simp) _).setCell (by simp) _).setCell (by simp) _, CA, cd, ?_, ?_⟩
      · rw [e2, HCL.out]; rfl
      · rw [e2]; rw [← HCL.out]; exact HI1.out.out_sl _ _ _
    · obtain ⟨r, hmp⟩ : ∃ r, mappedReg (regsOf l) a k = some r := by
        cases hmm : mappedReg (regsOf l) a k with
        | none => exact absurd ((room_mapped (by omega)).2 hmm) (by rw [HRM.out]; exact hr)
        | some r => exact ⟨r, rfl⟩
      have hfr := (mappedReg_some hmp).1
      have hab := mapped_lt (regsOf_bound H0.out) hmp
      have heq : er = if r.wr = true then 0 else 12 := by rw [← HER.out, storeErr, if_pos HZ.out, Int.toNat_natCast, hmp]
      have HFR := hid hfr
      have HEQ := hid heq
      clear hmp hfr heq
      have b0 := HI1.out.b0
      have b1 := HI1.out.b1
      have b2 := HI1.out.b2
      go_wp2_with fail
      refine (region9_any wo _ (HO.out.trans (HE.out.trans HX1.out)) LA n c l HS.out H0.out (.slice CA cm cd) a ha).mono ?_
      rintro e w2 ⟨hx2, hreg⟩
      have HX2 := hid (HX1.out.trans hx2)
      have HI2 := hid (HI1.out.next hx2)
      have HREG := hid hreg
      clear hx2 hreg b0 b1 b2
      rcases HREG.out with ⟨-, hf⟩ | ⟨rfl, hf⟩ | ⟨j, s, rfl, hj, hf⟩
      · rw [HFR.out] at hf; cases hf
      · have hrr : r = stackReg := by rw [HFR.out] at hf; injection hf
        have e : er = 0 := by rw [HEQ.out, hrr]; rfl
        subst e
        rw [← HLN.out]
        have b1 := HI2.out.b1
        clear hf hrr
        go_wp2
        go_loopw [3, 11] (fun v i wr => ∃ (j : Nat) (A' : Option Addr) (m' c' : Nat), j ≤ k ∧ i = .int .i64 j ∧ v = .int .u32 (x / 256 ^ j : Nat) ∧ Hid (StoInv S w wr w.heap.size (.slice LA n c) A' m' c' (insMany cs a x j))) (fun _ i _ => k - (intOf i).toNat)
        case atStart => exact ⟨0, CA, cm, cd, by omega, rfl, by simp, HI2⟩
        case round =>
          clear b1
          obtain ⟨j, A', m', c', hj, rfl, rfl, hinv⟩ := hrel
          have hml := hinv.out.sl.len
          have hml2 := insMany_length cs a x j
          obtain ⟨y, hy⟩ : ∃ y, x / 256 ^ j = y := ⟨_, rfl⟩
          have hyl : y < 4294967296 := by rw [← hy]; exact Nat.lt_of_le_of_lt (Nat.div_le_self _ _) hx
          have hcm : m' ≤ 100004 := by have := HCL.out; omega
          rw [hy]
          have HY := hid hy
          have HML := hid hml
          clear hy hml hml2
          obtain ⟨b0, b1, b2, fb, r0, r1, r2, fr, -, -⟩ := hinv.out
          by_cases h1 : j < k
          · obtain ⟨z, hz⟩ : ∃ z, y % 256 = z := ⟨_, rfl⟩
            have hzi : (y : Int) % 256 = (z : Int) := by omega
            have hzl : z < 256 := by omega
            have HZZ := hid hz; clear hz fb fr r0 r1 r2
            go_wp2_with fail
            refine (write9_any wr wr (Ext.refl _) LA n c A' m' c' (insMany cs a x j) hinv.out.sl.all (by omega) (a + j) z (by omega) hzl).mono ?_
            rintro e w3 ⟨hx3, A2, c2, rfl, hs2⟩
            have hg := hinv.out.size
            have HI3 := hid ((hinv.out.next hx3))
            have hwr := hinv.out.ext.size
            have HS2 := hid (hs2.mono (S' := fun b => (S b ∨ w.heap.size ≤ b) ∧ b ≠ w.heap.size ∧ b ≠ w.heap.size + 1) (fun b hb _ => ⟨.inr (by omega), by omega⟩))
            clear b0 b1 b2 hx3 hs2
            obtain ⟨b0, b1, b2, fb, -, -, -, -, -, -⟩ := HI3.out
            have f0 := fb 0
            have f1 := fb 1
            have f2 := fb 2
            have hgs := HI3.out.size
            clear fb
            go_wp2
            go_roundw
            case rel => exact ⟨j + 1, A2, _, c2, by omega, by go_num, by rw [Nat.pow_succ, ← Nat.div_div_eq_div_mul, HY.out]; simp, hid (by rw [show insMany cs a x (j + 1) = insCell (insMany cs a x j) (a + j) z by rw [← HZZ.out, ← HY.out]; rfl]; exact HI3.out.put (Nat.le_refl _) HS2.out)⟩
            case measure => simp [intOf]; omega
          · obtain rfl : k = j := by omega
            have f0 := fr 0
            have f1 := fr 1
            have f2 := fr 2
            have hgs := hinv.out.size
            have e1 : L = insMany cs a x k := by rw [← HL.out, storeCells, if_pos HER.out, Int.toNat_natCast]
            clear fb fr
            go_wp2
            refine bodyPost_ret (v := .tuple #[.agg #[.bool true, .slice LA n c, .slice A' m' c'], .int .i64 0]) (by simp [results, Try.results20, go_sem, World.cell?_setCell_same, World.cell?_setCell_other, r0, r1, r2]) rfl ?_
            refine ⟨((hinv.out.ext.setCell (by simp) _).setCell (by simp) _).setCell (by simp) _, A', c', ?_, ?_⟩
            · rw [e1, HML.out]; rfl
            · rw [e1, ← HML.out]; exact hinv.out.out_sl _ _ _
      · have hrr : r = regOf s := by rw [HFR.out] at hf; injection hf
        have hew : er = if s.wr = true then 0 else 12 := by rw [HEQ.out, hrr]; rfl
        have hjn := (List.getElem?_eq_some_iff.1 hj).1
        rw [← HLN.out] at hjn
        obtain ⟨b, off, dA, dc, rfl, -, -, -, -, -, -, -, c3, -⟩ := HS.out.sec_at hj
        have c3 := (HO.out.trans (HE.out.trans HX2.out)).cell c3
        have b1 := HI2.out.b1
        clear hf hrr hj
        obtain ⟨z, hz⟩ : ∃ z, s.wr = z := ⟨_, rfl⟩
        rw [hz] at c3 hew
        cases z with
        | false =>
          have e : er = 12 := hew
          subst e
          have e2 := SAME.out (by omega)
          clear hew hz
          obtain ⟨b0, b1, b2, fb, r0, r1, r2, fr, -, -⟩ := HI2.out
          have f0 := fr 0
          have f1 := fr 1
          have f2 := fr 2
          have hgs := StoInv.size HI2.out
          clear fb fr
          go_wp2
          refine bodyPost_ret (v := .tuple #[.agg #[.bool true, .slice (some ⟨b, off, none⟩) n c, .slice CA cm cd], .int .i64 12]) (by simp [results, Try.results20, go_sem, World.cell?_setCell_same, World.cell?_setCell_other, r0, r1, r2]) rfl ?_
          refine ⟨((StoInv.ext HI2.out |>.setCell (by simp) _).setCell (by simp) _).setCell (by simp) _, CA, cd, ?_, ?_⟩
          · rw [e2, HCL.out]; rfl
          · rw [e2]; rw [← HCL.out]; exact HI2.out.out_sl _ _ _
        | true =>
          have e : er = 0 := hew
          subst e
          clear hew hz
          go_wp2
          go_loopw [3, 11] (fun v i wr => ∃ (j : Nat) (A' : Option Addr) (m' c' : Nat), j ≤ k ∧ i = .int .i64 j ∧ v = .int .u32 (x / 256 ^ j : Nat) ∧ Hid (StoInv S w wr w.heap.size (.slice (some ⟨b, off, none⟩) n c) A' m' c' (insMany cs a x j))) (fun _ i _ => k - (intOf i).toNat)
          case atStart => exact ⟨0, CA, cm, cd, by omega, rfl, by simp, HI2⟩
          case round =>
            clear b1
            obtain ⟨j, A', m', c', hj, rfl, rfl, hinv⟩ := hrel
            have hml := hinv.out.sl.len
            have hml2 := insMany_length cs a x j
            obtain ⟨y, hy⟩ : ∃ y, x / 256 ^ j = y := ⟨_, rfl⟩
            have hyl : y < 4294967296 := by rw [← hy]; exact Nat.lt_of_le_of_lt (Nat.div_le_self _ _) hx
            have hcm : m' ≤ 100004 := by have := HCL.out; omega
            rw [hy]
            have HY := hid hy
            have HML := hid hml
            clear hy hml hml2
            obtain ⟨b0, b1, b2, fb, r0, r1, r2, fr, -, -⟩ := hinv.out
            by_cases h1 : j < k
            · obtain ⟨z, hz⟩ : ∃ z, y % 256 = z := ⟨_, rfl⟩
              have hzi : (y : Int) % 256 = (z : Int) := by omega
              have hzl : z < 256 := by omega
              have HZZ := hid hz; clear hz fb fr r0 r1 r2
              go_wp2_with fail
              refine (write9_any wr wr (Ext.refl _) (some ⟨b, off, none⟩) n c A' m' c' (insMany cs a x j) hinv.out.sl.all (by omega) (a + j) z (by omega) hzl).mono ?_
              rintro e w3 ⟨hx3, A2, c2, rfl, hs2⟩
              have hg := hinv.out.size
              have HI3 := hid ((hinv.out.next hx3))
              have hwr := hinv.out.ext.size
              have HS2 := hid (hs2.mono (S' := fun b => (S b ∨ w.heap.size ≤ b) ∧ b ≠ w.heap.size ∧ b ≠ w.heap.size + 1) (fun b hb _ => ⟨.inr (by omega), by omega⟩))
              clear b0 b1 b2 hx3 hs2
              obtain ⟨b0, b1, b2, fb, -, -, -, -, -, -⟩ := HI3.out
              have f0 := fb 0
              have f1 := fb 1
              have f2 := fb 2
              have hgs := HI3.out.size
              clear fb
              go_wp2
              go_roundw
              case rel => exact ⟨j + 1, A2, _, c2, by omega, by go_num, by rw [Nat.pow_succ, ← Nat.div_div_eq_div_mul, HY.out]; simp, hid (by rw [show insMany cs a x (j + 1) = insCell (insMany cs a x j) (a + j) z by rw [← HZZ.out, ← HY.out]; rfl]; exact HI3.out.put (Nat.le_refl _) HS2.out)⟩
              case measure => simp [intOf]; omega
            · obtain rfl : k = j := by omega
              have f0 := fr 0
              have f1 := fr 1
              have f2 := fr 2
              have hgs := hinv.out.size
              have e1 : L = insMany cs a x k := by rw [← HL.out, storeCells, if_pos HER.out, Int.toNat_natCast]
              clear fb fr
              go_wp2
              refine bodyPost_ret (v := .tuple #[.agg #[.bool true, .slice (some ⟨b, off, none⟩) n c, .slice A' m' c'], .int .i64 0]) (by simp [results, Try.results20, go_sem, World.cell?_setCell_same, World.cell?_setCell_other, r0, r1, r2]) rfl ?_
              refine ⟨((hinv.out.ext.setCell (by simp) _).setCell (by simp) _).setCell (by simp) _, A', c', ?_, ?_⟩
              · rw [e1, HML.out]; rfl
              · rw [e1, ← HML.out]; exact hinv.out.out_sl _ _ _
end Go.Proofs.Ytjfdbfbdkjfgpaa
