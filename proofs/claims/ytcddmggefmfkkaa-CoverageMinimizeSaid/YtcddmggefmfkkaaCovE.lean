/- coverage.Inputs. -/
import Derived.Test.YtcddmggefmfkkaaCovD
namespace Go.Proofs.Ytcddmggefmfkkaa
open Go.RowKit Go.Deco
set_option linter.unusedSimpArgs false
set_option linter.unusedVariables false

def boxI (g j i : Nat) : Nat := if j < 3 then g else itG g i
def fillR (g j len i : Nat) : List Nat := (List.range i).map (cellI g j) ++ List.replicate (len - i) 0
theorem fill_step {g j len i : Nat} (h : i < len) : fillR g j len (i + 1) = (fillR g j len i).set i (cellI g j i) := by
  unfold fillR
  have e1 : List.replicate (len - i) 0 = 0 :: List.replicate (len - (i + 1)) 0 := by
    have : len - i = (len - (i + 1)) + 1 := by omega
    rw [this]
    rfl
  rw [e1, List.set_append, List.length_map, List.length_range, if_neg (by omega), Nat.sub_self, List.set_cons_zero, List.range_succ, List.map_append]
  simp
theorem fill_len {g j len i : Nat} (h : i ≤ len) : (fillR g j len i).length = len := by
  simp [fillR]
  omega
theorem fill_zero (g j len : Nat) : fillR g j len 0 = List.replicate len 0 := by simp [fillR]
theorem fill_all (g j len : Nat) : fillR g j len len = rowI g j len := by simp [fillR, rowI]
theorem fill_same {g len i : Nat} (h : i < len) : fillR g 0 len (i + 1) = fillR g 0 len i := by
  rw [fill_step h]
  apply List.ext_getElem?
  intro k
  rw [List.getElem?_set]
  split
  · rename_i hk
    subst hk
    rw [if_pos (by rw [fill_len (by omega)]; exact h)]
    unfold fillR
    rw [List.getElem?_append_right (by simp), List.length_map, List.length_range, Nat.sub_self, List.getElem?_replicate, if_pos (by omega)]
    rfl
  · rfl
theorem box_step {g j i : Nat} (h : 3 ≤ j) : stepG (boxI g j i) = boxI g j (i + 1) := by
  rw [boxI, if_neg (by omega), boxI, if_neg (by omega)]
  rfl
theorem box_low {g j i : Nat} (h : j < 3) : boxI g j i = boxI g j (i + 1) := by rw [boxI, if_pos h, boxI, if_pos h]
theorem box_cell {g j i : Nat} (h : 3 ≤ j) : numG (boxI g j (i + 1)) = cellI g j i := by
  rw [boxI, if_neg (by omega), cellI, if_neg (by omega), if_neg (by omega), if_neg (by omega)]
theorem box_lt {g : Nat} (hg : g < 4294967296) (j i : Nat) : boxI g j i < 4294967296 := by
  unfold boxI
  split
  · exact hg
  · exact itG_lt hg i
theorem box_zero (g j : Nat) : boxI g j 0 = g := by
  unfold boxI
  split <;> rfl
theorem box_all (seed len j : Nat) : boxI (stateI seed len j) j len = stateI seed len (j + 1) := rfl
theorem own_made {w1 : World} {base b n : Nat} (h : w1.ownsRow base 36 1 (.slice (some ⟨b, 0, none⟩) n n) n (madeCells (Value.cells (.int .u32 0)) (n * 1)).toList) : OwnS u32R w1 base 36 Nowhere (.slice (some ⟨b, 0, none⟩) n n) (List.replicate n 0) := by
  refine ⟨List.replicate n (.int .u32 0), ?_, chunks_num.2 ⟨by simp, fun x hx => ?_⟩⟩
  · have : (madeCells (Value.cells (.int .u32 0)) (n * 1)).toList = List.replicate n (.int .u32 0) := by
      rw [Nat.mul_one]; exact toList_madeCells_one _ _
    rw [this] at h
    rw [List.length_replicate]
    exact h
  · have := List.eq_of_mem_replicate hx
    omega
theorem cellI_lt {g j q : Nat} (hg : g < 4294967296) (hq : q < 4294967296) : cellI g j q < 4294967296 := by
  unfold cellI
  repeat' split
  all_goals first
    | omega
    | exact numG_lt (itG_lt hg _)
theorem fillTail {V wr : World} {b0 g j len q v : Nat} (hb : b0 < V.heap.size) (hq : q < len) (hl : len ≤ 20) (hg : g < 4294967296) (hgr : V.grownBy wr (some b0)) (ho : OwnS u32R wr V.heap.size 36 Nowhere (.slice (some ⟨V.heap.size, 0, none⟩) len len) (fillR g j len q))
    (y0 : wr.cell? ⟨b0, 0, none⟩ = some (.int .u32 (v : Nat))) (yf : wr.frozen? ⟨b0, 0, none⟩ = false) :
    V.grownBy (wr.setCell ⟨V.heap.size, q, none⟩ (.int .u32 (cellI g j q : Nat))) (some b0) ∧ OwnS u32R (wr.setCell ⟨V.heap.size, q, none⟩ (.int .u32 (cellI g j q : Nat))) V.heap.size 36 Nowhere (.slice (some ⟨V.heap.size, 0, none⟩) len len) (fillR g j len (q + 1)) ∧
      (wr.setCell ⟨V.heap.size, q, none⟩ (.int .u32 (cellI g j q : Nat))).cell? ⟨b0, 0, none⟩ = some (.int .u32 (v : Nat)) ∧ (wr.setCell ⟨V.heap.size, q, none⟩ (.int .u32 (cellI g j q : Nat))).frozen? ⟨b0, 0, none⟩ = false := by
  refine ⟨hgr.andThen (row' := some V.heap.size) ⟨rfl, rfl, rfl, by simp, fun k _ hk => Below.heap_setCell _ _ _ k (fun e => hk (by rw [e]))⟩ (fun j hj => .inl (by cases hj; exact Nat.le_refl _)), ?_, (World.cell?_setCell_other _ _ _ _ (fun e => by injection e; omega)).trans y0, by rw [World.frozen?_setCell]; exact yf⟩
  rw [fill_step hq]
  exact ho.num_set (cellI_lt hg (by omega)) q
theorem info_u32s : (Try.prog.info? 23).map (fun i => (i.zero, i.size, i.bytes)) = some (some (.slice none 0 0), 1, 24) := by kernel_rfl

/-- A list of lists is handed back. -/
def ListsOf (w : World) (o : List (List Nat)) (e : Ending) (w' : World) : Prop :=
  Ext w w' ∧ ∃ A c, e = .returned (.slice A o.length c) ∧ Sl (slR u32R) w' All (.slice A o.length c) o
/-- How many inputs. -/
def numI (n : Int) : Nat := min n.toNat 256

set_option maxRecDepth 100000 in
set_option maxHeartbeats 4000000 in
theorem inputs_any (w : World) (seed : Nat) (hs : seed < 4294967296) (n length : Int) (hl : length ≤ 20) :
    Calls Try.prog 18 #[.int .u32 seed, .int .i64 n, .int .i64 length] w (ListsOf w (inputsI seed (numI n) length.toNat)) := by
  obtain ⟨i0, hi, hz0, hz1, hz2⟩ := info_parts info_w32
  obtain ⟨j0, hj, hj0, hj1, hj2⟩ := info_parts info_u32s
  have HI := hid hi
  have HZ0 := hid hz0
  have HZ1 := hid hz1
  have HZ2 := hid hz2
  have HJ := hid hj
  have HJ0 := hid hj0
  have HJ1 := hid hj1
  have HJ2 := hid hj2
  have hN : min (max n 0) 256 = ((numI n : Nat) : Int) := by unfold numI; omega
  have hNl : numI n ≤ 256 := Nat.min_le_right _ _
  obtain ⟨N, hNN⟩ : ∃ N, numI n = N := ⟨_, rfl⟩
  rw [hNN] at hN hNl ⊢
  have hml : min (max length 0) 4096 = ((length.toNat : Nat) : Int) := by omega
  have hll : length.toNat ≤ 20 := by omega
  obtain ⟨len, hlen⟩ : ∃ len, length.toNat = len := ⟨_, rfl⟩
  rw [hlen] at hml hll ⊢
  clear hi hz0 hz1 hz2 hj hj0 hj1 hj2 hNN hlen
  obtain ⟨W0, hW0⟩ : ∃ W0, w.alloc (.cells #[.int .u32 seed] 69) = W0 := ⟨_, rfl⟩
  have hE0 : Ext w W0 := by rw [← hW0]; exact (Ext.refl w).alloc _
  have hs0 : W0.heap.size = w.heap.size + 1 := by rw [← hW0]; simp
  have c0 : W0.cell? ⟨w.heap.size, 0, none⟩ = some (.int .u32 seed) := by rw [← hW0]; simp [go_sem]
  have f0 : W0.frozen? ⟨w.heap.size, 0, none⟩ = false := by rw [← hW0]; simp [go_sem]
  have HE0 := hid hE0
  have HS0 := hid hs0
  have HC0 := hid c0
  have HF0 := hid f0
  clear hE0 hs0 c0 f0
  go_enter Try.func18, Try.ntmps18
  go_wp2
  clear hW0
  go_loopw [8, 16] (fun v i wr => ∃ (j : Nat) (A1 : Option Addr) (c1 : Nat) (o : List (List Nat)), j ≤ N ∧ i = .int .i64 j ∧ v = .slice A1 o.length c1 ∧ Hid (o.length = j) ∧ Hid (OwnS (slR u32R) wr (w.heap.size + 1) 23 (fun b => b ≠ w.heap.size) (.slice A1 o.length c1) o) ∧ Hid (w.heap.size + 1 ≤ wr.heap.size ∧ Ext w wr) ∧ Hid (o = inputsI seed j len) ∧ Hid (wr.cell? ⟨w.heap.size, 0, none⟩ = some (.int .u32 (stateI seed len j : Nat)) ∧ wr.frozen? ⟨w.heap.size, 0, none⟩ = false)) (fun _ i _ => N - (intOf i).toNat)
  case atStart => exact ⟨0, none, 0, [], by omega, rfl, rfl, hid rfl, hid OwnS.nil, hid ⟨by rw [HS0.out]; exact Nat.le_refl _, HE0.out⟩, hid rfl, hid ⟨HC0.out, HF0.out⟩⟩
  case round =>
    obtain ⟨j, A1, c1, o, hj, rfl, rfl, hoj, HO, HX, HOE, HG⟩ := hrel
    by_cases h1 : j < N
    · have hg32 := stateI_lt hs len j
      have hin : inputsI seed (j + 1) len = inputsI seed j len ++ [rowI (stateI seed len j) j len] := by
        rw [inputsI, inputsI, List.range_succ, List.map_append]
        rfl
      have hba := box_all seed len j
      obtain ⟨g, hg⟩ : ∃ g, stateI seed len j = g := ⟨_, rfl⟩
      rw [hg] at hg32 hin hba HG
      have HIN := hid hin
      have HBA := hid hba
      clear hin hba hg
      go_wp2_with (first
        | (at_make; refine wpList_make_full _ rfl (.tmp 21) (.tmp 21) 23 rfl wr.heap.size 36 i0 (.int .u32 0) 1 Try.underlying23 HI.out HZ0.out HZ1.out .i64 .i64 _ _ len rfl rfl rfl rfl (by rw [HZ2.out]; omega) (by unfold maxLen; omega) (Nat.le_refl _) ?_; intro w1 hr1 hg1; have HL1 := hid (own_made hr1); have HX1 := hid (show Ext wr w1 from ⟨hg1.os, hg1.tape, hg1.output, hg1.size, fun k hk => hg1.block k hk (by simp)⟩); clear hr1 hg1)
        | fail)
      have hV : ∃ V, V = wr := ⟨_, rfl⟩
      obtain ⟨V, rfl⟩ := hV
      have hVs := HX.out.1
      have hne : ¬ (w.heap.size = V.heap.size) := by omega
      have hb0 : w.heap.size < V.heap.size := by omega
      go_loopw [25] (fun i wi => ∃ q : Nat, q ≤ len ∧ i = .int .i64 q ∧ Hid (V.grownBy wi (some w.heap.size)) ∧ Hid (OwnS u32R wi V.heap.size 36 Nowhere (.slice (some ⟨V.heap.size, 0, none⟩) len len) (fillR g j len q)) ∧ Hid (wi.cell? ⟨w.heap.size, 0, none⟩ = some (.int .u32 (boxI g j q : Nat)) ∧ wi.frozen? ⟨w.heap.size, 0, none⟩ = false)) (fun i _ => len - (intOf i).toNat)
      case atStart =>
        refine ⟨0, by omega, rfl, hid (HX1.out.grownBy _), hid (by rw [fill_zero]; exact HL1.out), hid ⟨?_, ?_⟩⟩
        · rw [box_zero]
          exact HX1.out.cell HG.out.1
        · exact (HX1.out.frozen (p := ⟨w.heap.size, 0, none⟩) hb0).trans HG.out.2
      case round =>
        obtain ⟨q, hq, rfl, HGR, HL, HB⟩ := hrel
        by_cases h2 : q < len
        · have hfl := fill_len (g := g) (j := j) hq
          obtain ⟨x, hx⟩ : ∃ x, (fillR g j len q)[q]? = some x := ⟨_, List.getElem?_eq_getElem (by omega)⟩
          have hcx := HL.out.num_cell hx
          have x0 := hcx.1
          have xf := hcx.2
          have HX0 := hid x0
          have HXF := hid xf
          clear hx hcx hfl x0 xf
          by_cases h3 : 3 ≤ j
          · have hbx := box_step (g := g) (i := q) h3
            have hbc := box_cell (g := g) (i := q) h3
            have HBX := hid hbx
            have HBC := hid hbc
            clear hbx hbc
            have h3' : ((j : Int) ≥ 3) := by omega
            have h3'' : (decide ((j : Int) ≥ 3)) = true := by simpa using h3'
            clear h3
            go_wp2_with fail
            refine (next_any wr w.heap.size (boxI g j q) (box_lt hg32 _ _) HB.out.1 HB.out.2).mono ?_
            rintro e w3 ⟨rfl, hw3⟩
            rw [HBX.out, HBC.out]
            rw [HBX.out] at hw3
            have hg3 : wr.grownBy w3 (some w.heap.size) := by rw [hw3]; exact ⟨rfl, rfl, rfl, by simp, fun k _ hk => Below.heap_setCell _ _ _ k (fun e => hk (by rw [e]))⟩
            have hol := HL.out.set_far (p := ⟨w.heap.size, 0, none⟩) (u := .int .u32 (boxI g j (q + 1) : Nat)) (fun e => by have := own_at e; simp at this; omega) (fun b hb => hb.elim)
            rw [← hw3] at hol
            have y0 : w3.cell? ⟨w.heap.size, 0, none⟩ = some (.int .u32 (boxI g j (q + 1) : Nat)) := by rw [hw3]; exact World.cell?_setCell_same' _ _ _ (by rw [HB.out.1]; rfl)
            have yf : w3.frozen? ⟨w.heap.size, 0, none⟩ = false := by rw [hw3, World.frozen?_setCell]; exact HB.out.2
            have z0 : w3.cell? ⟨V.heap.size, q, none⟩ = some (.int .u32 x) := by rw [hw3]; exact (World.cell?_setCell_other _ _ _ _ (fun e => by injection e; omega)).trans HX0.out
            have zf : w3.frozen? ⟨V.heap.size, q, none⟩ = false := by rw [hw3, World.frozen?_setCell]; exact HXF.out
            have HG3 := hid (HGR.out.andThen hg3 (fun j hj => .inr hj))
            have HT := hid (fillTail (j := j) hb0 h2 hll hg32 HG3.out hol y0 yf)
            clear hw3 hg3 hol y0 yf
            obtain ⟨cl, hcc⟩ : ∃ cl, cellI g j q = cl := ⟨_, rfl⟩
            rw [hcc] at HT ⊢
            clear hcc
            go_wp2
            first
              | go_roundw
              | refine ⟨?rel, ?measure⟩
            case rel => exact ⟨q + 1, by omega, by go_num, hid HT.out.1, hid HT.out.2.1, hid HT.out.2.2⟩
            case measure => simp [intOf]; omega
          · have hbx := box_low (g := g) (i := q) (show j < 3 by omega)
            have hbq := HB.out
            rw [hbx] at hbq
            have HT := hid (fillTail (j := j) hb0 h2 hll hg32 HGR.out HL.out hbq.1 hbq.2)
            have x0 := HX0.out
            have xf := HXF.out
            clear hbx hbq
            have h4 : j = 0 ∨ j = 1 ∨ j = 2 := by omega
            have hq1 : IntKind.u32.wrap (q : Int) = q := IntWalk.u32_in _ (by omega)
            have hq2 : (q : Int) % 4294967296 = q := by omega
            rcases h4 with rfl | rfl | rfl
            · clear x0 xf
              go_wp2
              first
                | go_roundw
                | refine ⟨?rel, ?measure⟩
              case rel => exact ⟨q + 1, by omega, by go_num, HGR, hid (by rw [fill_same h2]; exact HL.out), hid (by rw [← box_low (by omega)]; exact HB.out)⟩
              case measure => simp [intOf]; omega
            · rw [show cellI g 1 q = 4294967295 from rfl] at HT
              go_wp2
              first
                | go_roundw
                | refine ⟨?rel, ?measure⟩
              case rel => exact ⟨q + 1, by omega, by go_num, hid HT.out.1, hid HT.out.2.1, hid HT.out.2.2⟩
              case measure => simp [intOf]; omega
            · rw [show cellI g 2 q = q from rfl] at HT
              go_wp2
              first
                | go_roundw
                | refine ⟨?rel, ?measure⟩
              case rel => exact ⟨q + 1, by omega, by go_num, hid HT.out.1, hid HT.out.2.1, hid HT.out.2.2⟩
              case measure => simp [intOf]; omega
        · obtain rfl : q = len := by omega
          have hrow := HL.out
          rw [fill_all] at hrow
          have hbo := HO.out.block
          have HSL := hid (hrow.num_sl (S := fun b => b ≠ w.heap.size ∧ some b ≠ (Value.slice A1 o.length c1).ownBlock) (fun k hk => ⟨by omega, fun e => by have := (hbo k e.symm).2; omega⟩))
          have HO2 := hid (HO.out.kept HGR.out (.inr (fun e => by have := (hbo _ e).1; omega)) (fun b hb _ hc => HGR.out.block b hc.lt (by simp; exact hb)))
          have hsz : w.heap.size + 1 ≤ wr.heap.size := Nat.le_trans hVs HGR.out.size
          have hBq := HB.out
          rw [HBA.out] at hBq
          have HBQ := hid hBq
          have HX2 := hid (HX.out.2.grown HGR.out (fun k hk => by cases hk; exact Nat.le_refl _))
          have hol : o.length ≤ 256 := by have := hoj.out; omega
          clear hrow hbo hBq
          go_wp2_with (first
            | (at_builtin; refine wpList_app1s rfl (.tmp 50) (.tmp 52) 38 rfl (w.heap.size + 1) 23 j0 _ 1 24 Try.underlying38 HJ.out HJ0.out HJ1.out HJ2.out rfl (slR u32R) rfl (.slice A1 o.length c1) o rfl HO2.out wr.heap.size rfl (rowI g j q) rfl ⟨_, rfl, HSL.out⟩ (by omega) (by omega) hsz ?_; intro A5 c5 w5 hown5 hg5; have HO5 := hid hown5; have HX5 := hid ((HX2.out.alloc _).grown hg5 (fun k hk => by have := (HO2.out.block _ hk).1; omega)); have HG5 := hid (((Ext.refl wr).alloc (.cells #[.slice (some ⟨V.heap.size, 0, none⟩) q q] 23)).grownBy (Value.slice A1 o.length c1).ownBlock |>.andThen hg5 (fun j hj => .inr hj)); clear hown5 hg5)
            | fail)
          first
            | go_roundw
            | refine ⟨?rel, ?measure⟩
          case rel =>
            have hb1 : w.heap.size < wr.heap.size := by omega
            have hb2 : some w.heap.size ≠ (Value.slice A1 o.length c1).ownBlock := fun e => by have := (HO2.out.block _ e.symm).1; omega
            refine ⟨j + 1, A5, c5, o ++ [rowI g j q], by omega, by go_num, by simp, hid (by have := hoj.out; simp [this]), hid (by simpa using HO5.out), hid ⟨Nat.le_trans hsz HG5.out.size, HX5.out⟩, hid (by rw [HIN.out, HOE.out]), hid ⟨?_, ?_⟩⟩
            · exact (grown_cell HG5.out (q := ⟨w.heap.size, 0, none⟩) hb1 hb2).trans HBQ.out.1
            · exact (grown_frozen HG5.out (q := ⟨w.heap.size, 0, none⟩) hb1 hb2).trans HBQ.out.2
          case measure => simp [intOf]; omega
    · obtain rfl : j = N := by omega
      have e := HOE.out
      subst e
      go_wp2
      go_ret
      exact ⟨HX.out.2, A1, c1, rfl, HO.out.sl⟩
end Go.Proofs.Ytcddmggefmfkkaa
