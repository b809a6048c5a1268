/- decompilerref34.Conflicts. -/
import Derived.Test.YtacmjhcfjhpkeaaGreatDoorRfJm
import Derived.Test.YtacmjhcfjhpkeaaGreatDoorSglm
namespace Go.Proofs.YtacmjhcfjhpkeaaGreatDoor
open Go.RowKit Go.Deco
set_option linter.unusedSimpArgs false
set_option linter.unusedVariables false

/-- The parts of the accesses with a base. -/
def baseP (l : List Acc) (b : Int) : List (Int × Ty) := ((l.filter validA).filter fun x => decide (x.base = b)).map partA
def hitP (a : Acc) (g : List (Int × Ty)) : Bool := (fieldG g).2 && decide ((fieldG g).1.1 ≤ a.off) && decide (a.off < endF (fieldG g).1)
theorem hits_eq (l : List Acc) (a : Acc) : hitsA l a = ((groupsF (baseP l a.base)).filter (hitP a)).length := rfl
/-- The conflicts among the first k accesses. -/
def conflP (l : List Acc) (k : Nat) : List Nat := (((l.take k).zipIdx).filterMap fun x => if validA x.1 then some (List.replicate (hitsA l x.1) x.2) else none).flatten
theorem conflP_all (l : List Acc) : conflP l l.length = conflA l := by unfold conflP conflA; rw [List.take_length]
theorem conflP_zero (l : List Acc) : conflP l 0 = [] := rfl
theorem conflP_step {l : List Acc} {k : Nat} {x : Acc} (hx : l[k]? = some x) : conflP l (k + 1) = conflP l k ++ (if validA x = true then List.replicate (hitsA l x) k else []) := by
 have hk := (List.getElem?_eq_some_iff.1 hx).1
 unfold conflP
 rw [take_snoc' hx, List.zipIdx_append, List.filterMap_append, List.flatten_append]
 congr 1
 have hl : (l.take k).length = k := by rw [List.length_take]; omega
 rw [hl]
 by_cases h : validA x = true
 ·simp [List.zipIdx, h]
 ·simp [List.zipIdx, h]
theorem baseP_snoc {l : List Acc} {k : Nat} {x : Acc} {b : Int} (hx : l[k]? = some x) : baseP (l.take (k + 1)) b = if validA x = true ∧ x.base = b then baseP (l.take k) b ++ [partA x] else baseP (l.take k) b := by
 unfold baseP
 rw [take_snoc' hx, List.filter_append, List.filter_append, List.map_append]
 by_cases h : validA x = true
 ·by_cases h2 : x.base = b <;> simp [h, h2]
 ·simp [h]
theorem baseP_mem {l : List Acc} {b : Int} {f : Int × Ty} (h : f ∈ baseP l b) : 0 ≤ f.1 ∧ f.1 ≤ 131072 := by
 obtain ⟨a, ha, rfl⟩ := List.mem_map.1 h
 have h := valid_iff.1 (List.mem_filter.1 (List.mem_filter.1 ha).1).2
 exact ⟨h.2.1, by show a.off ≤ 131072; omega⟩
theorem baseP_len (l : List Acc) (b : Int) : (baseP l b).length ≤ l.length := by
 unfold baseP
 rw [List.length_map]
 exact Nat.le_trans (List.length_filter_le _ _) (List.length_filter_le _ _)
def ConfIs (w : World) (L : List Nat) (e : Ending) (w' : World) : Prop := ∃ A c, e = .returned (.slice A L.length c) ∧ Sl offR w' All (.slice A L.length c) L ∧ Ext w w'
/-- Some blocks stay as they were. -/
structure Fr (lo hi : Nat) (wg wr : World) : Prop where
 same : ∀ b, lo ≤ b → b < hi → wr.heap[b]? = wg.heap[b]?
 sz : hi ≤ wr.heap.size
theorem Fr.refl {lo : Nat} {w : World} : Fr lo w.heap.size w w := ⟨fun _ _ _ => rfl, Nat.le_refl _⟩
theorem Fr.ext {lo hi : Nat} {wg wr w' : World} (h : Fr lo hi wg wr) (he : Ext wr w') : Fr lo hi wg w' :=
 ⟨fun b h1 h2 => (he.block (by have := h.sz; omega)).trans (h.same b h1 h2), Nat.le_trans h.sz he.size⟩
theorem Fr.grown {lo hi : Nat} {wg wr w' : World} {row : Option Nat} (h : Fr lo hi wg wr) (hg : wr.grownBy w' row) (hr : ∀ q, row = some q → q < lo ∨ hi ≤ q) : Fr lo hi wg w' :=
 ⟨fun b h1 h2 => (hg.block b (by have := h.sz; omega) (fun e => by rcases hr b e.symm with h | h <;> omega)).trans (h.same b h1 h2), Nat.le_trans h.sz hg.size⟩
set_option maxRecDepth 100000 in
set_option maxHeartbeats 8000000 in
theorem rconfl_any (w : World) (A : Option Addr) (n c : Nat) (l : List Acc) (hl : Sl accR w All (.slice A n c) l) (hn : n ≤ 1000) :
  Calls Tryz.prog 30 #[.slice A n c] w (ConfIs w (conflA l)) := by
 have hln := hl.len
 have HLN := hid hln
 have HL := hid hl
 obtain ⟨j0, hj, hj0, hj1, hj2⟩ := info_parts info_int34
 have HJ := hid hj
 have HJ0 := hid hj0
 have HJ1 := hid hj1
 have HJ2 := hid hj2
 clear hj hj0 hj1 hj2 hln hl
 unfold ConfIs
 go_enter Tryz.func30, Tryz.ntmps30
 go_wp2
 go_loopw [4, 3] (fun i s3 wr => ∃ (k m : Nat) (A4 : Option Addr) (c4 : Nat) (X : List Nat), k ≤ n ∧ m ≤ 1000 * k ∧ i = .int .i64 k ∧ s3 = .slice A4 m c4 ∧ Hid (conflP l k = X ∧ X.length = m) ∧ Hid (OwnS offR wr w.heap.size 3 All (.slice A4 m c4) X) ∧ Hid (Ext w wr)) (fun i _ _ => n - (intOf i).toNat)
 case atStart => exact ⟨0, 0, none, 0, [], by omega, by omega, rfl, rfl, hid ⟨rfl, rfl⟩, hid OwnS.nil, hid (Ext.refl _)⟩
 case round =>
  obtain ⟨k, m, A4, c4, X, hk, hm, rfl, rfl, HXE, HO, HX⟩ := hrel
  by_cases h1 : k < n
  case neg =>
   have hkn : ¬ (k : Int) < (n : Int) := by omega
   obtain rfl : k = n := by omega
   go_wp2
   go_ret
   have hx := HXE.out.1
   rw [HLN.out, conflP_all] at hx
   rw [hx, HXE.out.2]
   exact ⟨A4, c4, rfl, HO.out.sl, HX.out⟩
  obtain ⟨x, hx⟩ : ∃ x, l[k]? = some x := ⟨_, List.getElem?_eq_getElem (by have := HLN.out; omega)⟩
  obtain ⟨b, off, rfl, x0, x1, x2, x3, hi0, hi1, hi2⟩ := (HL.out.ext HX.out).acc_at hx
  have hst := conflP_step hx
  rw [HXE.out.1] at hst
  obtain ⟨z, hz⟩ : ∃ z, validA x = z := ⟨_, rfl⟩
  have HVC := hid (fun (w' : World) => isvalid_any w' x)
  rw [hz] at HVC hst
  have HST := hid hst
  have hhe := hits_eq l x
  obtain ⟨G, hG⟩ : ∃ G, groupsF (baseP l x.base) = G := ⟨_, rfl⟩
  have hgl := groups_len (baseP l x.base)
  have hga := groups_all (P := fun f => 0 ≤ f.1 ∧ f.1 ≤ 131072) (p := baseP l x.base) (fun f hf => baseP_mem hf)
  have hbl := baseP_len l x.base
  rw [hG] at hhe hgl hga
  have HHE := hid hhe
  have HG := hid hG
  have HGA := hid hga
  have HGL : Hid (G.length ≤ 1000) := hid (by have := HLN.out; omega)
  have hval : z = true → 0 ≤ x.off ∧ x.off ≤ 65532 := fun h => by have := valid_iff.1 (hz.trans h); exact ⟨this.2.1, this.2.2⟩
  have HVAL := hid hval
  have HCELL := hid (And.intro x0 (And.intro x1 (And.intro x2 x3)))
  have HCW : Hid (∀ W, Ext w W → W.cell? ⟨b, off + k * 4 + 1, none⟩ = some (.int .i64 x.off)) := hid (by
   obtain ⟨b9, off9, hbo, -, z1, -⟩ := HL.out.acc_at hx
   obtain ⟨rfl, rfl⟩ : b = b9 ∧ off = off9 := by simpa using hbo
   exact fun W hW => hW.cell z1)
  have HXX := hid hx
  obtain ⟨HP, hHP⟩ : ∃ HP, hitP x = HP := ⟨_, rfl⟩
  rw [hHP] at HHE
  have HHP : Hid (∀ g, HP g = ((fieldG g).2 && decide ((fieldG g).1.1 ≤ x.off) && decide (x.off < endF (fieldG g).1))) := hid (fun g => by rw [← hHP]; rfl)
  obtain ⟨H, hH⟩ : ∃ H, hitsA l x = H := ⟨_, rfl⟩
  rw [hH] at HST HHE
  unfold accV at HVC
  obtain ⟨xb, xo, xw, xs⟩ := x
  simp only at x0 x1 x2 x3 HVC HG HGA HGL HVAL HCELL HHP HCW
  have hkn : (k : Int) < (n : Int) := by omega
  clear hx hi0 hi1 hi2 hz hst hhe hG hgl hga hbl hval hHP hH
  go_wp2_with fail
  refine (HVC.out _).mono ?_
  rintro e w5 ⟨rfl, hx5⟩
  have HX5 := hid (HX.out.trans hx5)
  have HR5 := hid hx5
  have HO5 := hid (HO.out.ext hx5)
  clear hx5 x0 x1 x2 x3
  cases z with
  | false =>
   have HST2 : Hid (conflP l (k + 1) = X) := hid (by rw [HST.out]; simp)
   go_wp2
   first
    | go_roundw
    | refine ⟨?rel, ?measure⟩
   case rel => exact ⟨k + 1, m, A4, c4, X, by omega, by omega, by go_num, rfl, hid ⟨HST2.out, HXE.out.2⟩, HO5, HX5⟩
   case measure => simp [intOf]; omega
  | true =>
  have HST2 : Hid (conflP l (k + 1) = X ++ List.replicate H k) := hid (by rw [HST.out]; simp)
  obtain ⟨hxo0, hxo1⟩ := HVAL.out rfl
  go_wp2
  go_loopw [6, 5] (fun i s5 wr => ∃ (j q : Nat) (A6 : Option Addr) (c6 : Nat), j ≤ n ∧ q ≤ j ∧ i = .int .i64 j ∧ s5 = .slice A6 q c6 ∧ Hid ((baseP (l.take j) xb).length = q) ∧ Hid (Sl (fdR (tyR 1)) wr (fun b => w5.heap.size ≤ b) (.slice A6 q c6) (stab ltF (baseP (l.take j) xb))) ∧ Hid (Ext w5 wr)) (fun i _ _ => n - (intOf i).toNat)
  case atStart => exact ⟨0, 0, none, 0, by omega, by omega, rfl, rfl, hid rfl, hid Sl.nil, hid (Ext.refl _)⟩
  case round =>
   obtain ⟨j, q, A6, c6, hj, hq, rfl, rfl, HQL, HS6, HXR⟩ := hrel
   by_cases h2 : j < n
   ·obtain ⟨y, hy⟩ : ∃ y, l[j]? = some y := ⟨_, List.getElem?_eq_getElem (by have := HLN.out; omega)⟩
    obtain ⟨b', off', hbo, y0, y1, y2, y3, hi0, hi1, hi2⟩ := (HL.out.ext (HX5.out.trans HXR.out)).acc_at hy
    obtain ⟨rfl, rfl⟩ : b = b' ∧ off = off' := by simpa using hbo
    have x0 := (HR5.out.trans HXR.out).cell HCELL.out.1
    have hsn := baseP_snoc (b := xb) hy
    obtain ⟨zy, hzy⟩ : ∃ z, validA y = z := ⟨_, rfl⟩
    have HVY := hid (fun (w' : World) => isvalid_any w' y)
    rw [hzy] at HVY hsn
    have HSN := hid hsn
    have HPC := hid (fun (w' : World) => rpart_any w' y)
    have HFP := hid (fun (w' : World) (S : Nat → Prop) => part_fdV 0 w' S y hi1 hi2)
    obtain ⟨py, hpy⟩ : ∃ py, partA y = py := ⟨_, rfl⟩
    rw [hpy] at HFP HSN
    unfold partV at HFP HPC
    obtain ⟨kd, hkd⟩ : ∃ kd, kindA y = kd := ⟨_, rfl⟩
    rw [hkd] at HFP HPC
    unfold accV at HVY HPC
    obtain ⟨yb, yo, yw, ys⟩ := y
    simp only at y0 y1 y2 y3 HVY HSN HPC HFP
    have hjn : (j : Int) < (n : Int) := by omega
    clear hbo hi0 hi1 hi2 hy hzy hsn hpy hkd
    cases zy with
    | false =>
     go_wp2_with fail
     refine wp_region_held_drew (S := (fun w' => w'.cell? ⟨b, off + j * 4, none⟩ = some (.int .i64 yb) ∧ w'.cell? ⟨b, off + j * 4 + 1, none⟩ = some (.int .i64 yo) ∧ w'.cell? ⟨b, off + j * 4 + 2, none⟩ = some (.int .i64 yw) ∧ w'.cell? ⟨b, off + j * 4 + 3, none⟩ = some (.bool ys))) (by kernel_rfl) ⟨y0, y1, y2, y3⟩ (fun hSg66q0 => ?_)
     refine rgT4 0 1 2 3 ?_
     refine rgC 4 (fun K hK => ?_)
     go_simp
     go_at_call 26
     refine (HVY.out _).mono ?_
     rintro e w7 ⟨rfl, hx7⟩
     have HX7 := hid hx7.drew_left
     clear hx7
     refine rgK hK ⟨HX7.out.cell y0, HX7.out.cell y1, HX7.out.cell y2, HX7.out.cell y3⟩ (fun hSg66q1 => ?_)
     clear hK K
     refine rgT 5 ?_
     refine rgU4 6 7 8 9 ?_
     refine rgU4 10 11 12 13 ?_
     refine rgU2 14 15 ?_
     refine rgU 16 ?_
     refine rgT 17 ?_
     refine wpAnyH_done (by kernel_rfl) ?_ _
     have HSN2 : Hid (baseP (l.take (j + 1)) xb = baseP (l.take j) xb) := hid (by rw [HSN.out]; simp)
     clear x0 y0 y1 y2 y3
     go_wp2
     first
      | go_roundw
      | refine ⟨?rel, ?measure⟩
     case rel => exact ⟨j + 1, q, A6, c6, by omega, by omega, by go_num, rfl, hid (by rw [HSN2.out]; exact HQL.out), hid (by rw [HSN2.out]; exact HS6.out.ext HX7.out), hid (HXR.out.trans HX7.out)⟩
     case measure => simp [intOf]; omega
    | true =>
     by_cases hbb : yb = xb
     ·have HSN2 : Hid (baseP (l.take (j + 1)) xb = baseP (l.take j) xb ++ [py]) := hid (by rw [HSN.out, if_pos ⟨rfl, hbb⟩])
      have g1 : (yb == xb) = true := by simp [hbb]
      clear hbb
      go_wp2_with fail
      refine wp_region_held_drew (S := (fun w' => w'.cell? ⟨b, off + j * 4, none⟩ = some (.int .i64 yb) ∧ w'.cell? ⟨b, off + j * 4 + 1, none⟩ = some (.int .i64 yo) ∧ w'.cell? ⟨b, off + j * 4 + 2, none⟩ = some (.int .i64 yw) ∧ w'.cell? ⟨b, off + j * 4 + 3, none⟩ = some (.bool ys) ∧ w'.cell? ⟨b, off + k * 4, none⟩ = some (.int .i64 xb))) (by kernel_rfl) ⟨y0, y1, y2, y3, x0⟩ (fun hSg67q0 => ?_)
      refine rgT4 0 1 2 3 ?_
      refine rgC 4 (fun K hK => ?_)
      go_simp
      go_at_call 26
      refine (HVY.out _).mono ?_
      rintro e w7 ⟨rfl, hx7⟩
      have HX7 := hid hx7.drew_left
      clear hx7
      refine rgK hK ⟨HX7.out.cell y0, HX7.out.cell y1, HX7.out.cell y2, HX7.out.cell y3, HX7.out.cell x0⟩ (fun hSg67q1 => ?_)
      clear hK K
      refine rgT6 5 6 7 8 9 10 ?_
      refine rgT6 11 12 13 14 15 16 ?_
      refine rgT 17 ?_
      refine wpAnyH_done (by kernel_rfl) ?_ _
      have y0 := HX7.out.cell y0
      have y1 := HX7.out.cell y1
      have y2 := HX7.out.cell y2
      have y3 := HX7.out.cell y3
      clear x0
      go_wp2_with fail
      refine (HPC.out _).mono ?_
      rintro e w8 ⟨rfl, hx8⟩
      have HX8 := hid (HX7.out.trans hx8)
      have HIC := hid (rins_any 0 _ w8 A6 q c6 _ (HS6.out.ext HX8.out) (by omega) py _ (HFP.out w8 _))
      clear hx8 y0 y1 y2 y3
      go_wp2_with fail
      refine (HIC.out).mono ?_
      rintro e w9 ⟨A9, c9, rfl, hs9, hx9⟩
      have hlen : (insR ltF py (stab ltF (baseP (l.take j) xb))).length = q + 1 := by rw [insR_len, stab_len, HQL.out]
      rw [hlen] at hs9 ⊢
      have HX9 := hid (HXR.out.trans (HX8.out.trans hx9))
      have HS9 : Hid (Sl (fdR (tyR 1)) w9 (fun b => w5.heap.size ≤ b) (.slice A9 (q + 1) c9) (stab ltF (baseP (l.take (j + 1)) xb))) := hid (by
       rw [HSN2.out, stab_snoc]
       refine hs9.mono fun b hb _ => ?_
       rcases hb with hb | hb
       ·exact hb
       ·have h1 := (HXR.out.trans HX8.out).size
        show w5.heap.size ≤ b
        omega)
      clear hs9 hx9 hlen
      go_wp2
      first
       | go_roundw
       | refine ⟨?rel, ?measure⟩
      case rel => exact ⟨j + 1, q + 1, A9, c9, by omega, by omega, by go_num, rfl, hid (by rw [HSN2.out, List.length_append, HQL.out]; rfl), HS9, HX9⟩
      case measure => simp [intOf]; omega
     ·have HSN2 : Hid (baseP (l.take (j + 1)) xb = baseP (l.take j) xb) := hid (by rw [HSN.out, if_neg (fun h => hbb h.2)])
      have g1 : (yb == xb) = false := by simp [hbb]
      clear hbb
      go_wp2_with fail
      refine wp_region_held_drew (S := (fun w' => w'.cell? ⟨b, off + j * 4, none⟩ = some (.int .i64 yb) ∧ w'.cell? ⟨b, off + j * 4 + 1, none⟩ = some (.int .i64 yo) ∧ w'.cell? ⟨b, off + j * 4 + 2, none⟩ = some (.int .i64 yw) ∧ w'.cell? ⟨b, off + j * 4 + 3, none⟩ = some (.bool ys) ∧ w'.cell? ⟨b, off + k * 4, none⟩ = some (.int .i64 xb))) (by kernel_rfl) ⟨y0, y1, y2, y3, x0⟩ (fun hSg68q0 => ?_)
      refine rgT4 0 1 2 3 ?_
      refine rgC 4 (fun K hK => ?_)
      go_simp
      go_at_call 26
      refine (HVY.out _).mono ?_
      rintro e w7 ⟨rfl, hx7⟩
      have HX7 := hid hx7.drew_left
      clear hx7
      refine rgK hK ⟨HX7.out.cell y0, HX7.out.cell y1, HX7.out.cell y2, HX7.out.cell y3, HX7.out.cell x0⟩ (fun hSg68q1 => ?_)
      clear hK K
      refine rgT6 5 6 7 8 9 10 ?_
      refine rgT6 11 12 13 14 15 16 ?_
      refine rgT 17 ?_
      refine wpAnyH_done (by kernel_rfl) ?_ _
      clear x0 y0 y1 y2 y3
      go_wp2
      first
       | go_roundw
       | refine ⟨?rel, ?measure⟩
      case rel => exact ⟨j + 1, q, A6, c6, by omega, by omega, by go_num, rfl, hid (by rw [HSN2.out]; exact HQL.out), hid (by rw [HSN2.out]; exact HS6.out.ext HX7.out), hid (HXR.out.trans HX7.out)⟩
      case measure => simp [intOf]; omega
   ·have hjn : ¬ (j : Int) < (n : Int) := by omega
    obtain rfl : j = n := by omega
    have hs := HS6.out
    rw [List.take_of_length_le (by have := HLN.out; omega)] at hs
    have HGC := hid (rgroups_any 1 (fun b => w5.heap.size ≤ b ∧ b < wr.heap.size) wr A6 q c6 (stab ltF (baseP l xb)) (fun b hb => hb.2) (hs.mono fun b hb hi => ⟨hb, hi.lt⟩) (by omega) (fun f hf => baseP_mem ((stabF_mem _ f).1 hf)))
    rw [show ((stab ltF (baseP l xb)).foldl grpS ([], 0)).1 = groupsF (baseP l xb) from rfl, HG.out] at HGC
    obtain ⟨ng, hng⟩ : ∃ ng, G.length = ng := ⟨_, rfl⟩
    unfold GroupsQ at HGC
    rw [hng] at HGC HGL
    have HNG := hid hng
    have hngb := HGL.out
    clear hs hng HS6 HQL
    go_wp2_with fail
    refine (HGC.out).mono ?_
    rintro e wg ⟨AG, cg, rfl, hsg, hxg⟩
    have HXG := hid (HX5.out.trans (HXR.out.trans hxg))
    have HSG := hid (hsg.mono (S' := fun b => w5.heap.size ≤ b ∧ b < wg.heap.size) fun b hb hi => ⟨by
     rcases hb with hb | hb
     ·exact hb.1
     ·have := HXR.out.size; omega, hi.lt⟩)
    have HOG := hid (HO5.out.ext (HXR.out.trans hxg))
    have HOB0 : Hid (∀ q, (Value.slice A4 m c4).ownBlock = some q → q < w5.heap.size ∨ wg.heap.size ≤ q) := hid (fun q hq => .inl (HO5.out.block q hq).2)
    clear hsg hxg HGC
    go_wp2
    go_loopw [8, 3] (fun i s3 wr => ∃ (j m2 : Nat) (A7 : Option Addr) (c7 : Nat) (Y : List Nat), j ≤ ng ∧ m2 ≤ 1000 * k + j ∧ i = .int .i64 j ∧ s3 = .slice A7 m2 c7 ∧ Hid (Y = X ++ List.replicate ((G.take j).filter HP).length k ∧ Y.length = m2) ∧ Hid (OwnS offR wr w.heap.size 3 All (.slice A7 m2 c7) Y) ∧ Hid (Ext w wr) ∧ Hid (Fr w5.heap.size wg.heap.size wg wr) ∧ Hid (∀ q, (Value.slice A7 m2 c7).ownBlock = some q → q < w5.heap.size ∨ wg.heap.size ≤ q)) (fun i _ _ => ng - (intOf i).toNat)
    case atStart => exact ⟨0, m, A4, c4, X, by omega, by omega, rfl, rfl, hid ⟨by simp, HXE.out.2⟩, HOG, HXG, hid Fr.refl, HOB0⟩
    case round =>
     obtain ⟨j, m2, A7, c7, Y, hj, hm2, rfl, rfl, HOL, HOY, HXK, HFR, HOB⟩ := hrel
     by_cases h3 : j < ng
     case neg =>
      have hjg : ¬ (j : Int) < (ng : Int) := by omega
      obtain rfl : j = ng := by omega
      have hy := HOL.out.1
      rw [List.take_of_length_le (by have := HNG.out; omega), ← HHE.out] at hy
      have HY := hid hy
      clear hy
      go_wp2
      first
       | go_roundw
       | refine ⟨?rel, ?measure⟩
      case rel => exact ⟨k + 1, m2, A7, c7, Y, by omega, by omega, by go_num, rfl, hid ⟨by rw [HST2.out, HY.out], HOL.out.2⟩, HOY, HXK⟩
      case measure => simp [intOf]; omega
     obtain ⟨g, hg⟩ : ∃ g, G[j]? = some g := ⟨_, List.getElem?_eq_getElem (by have := HNG.out; omega)⟩
     obtain ⟨bg, og, cs, rfl, ⟨vg, rfl, hvg⟩, hcs⟩ := (HSG.out.keep (w' := wr) (fun b hb _ => HFR.out.same b hb.1 hb.2)).get hg
     obtain ⟨A3, c3, rfl, hc3, hc4⟩ := hvg.form
     have p0 := hcs 0 _ rfl
     rw [show j * (slR (fdR (tyR 1))).size + 0 = j by simp [slR]] at p0
     have hgm := HGA.out g (List.mem_of_getElem? hg)
     have HFC := hid (rfield_any 1 wr All A3 g.length c3 g hvg.all (List.length_pos_iff.2 hgm.1) (by have := hgm.2.2; have := baseP_len l xb; have := HLN.out; omega) hgm.2.1)
     have hfo : 0 ≤ (fieldG g).1.1 ∧ (fieldG g).1.1 ≤ 131072 := by
      obtain ⟨y, hy, e⟩ := fieldG_off hgm.1
      rw [e]; exact hgm.2.1 y hy
     have hhit := HHP.out g
     obtain ⟨f, hf⟩ : ∃ f, fieldG g = f := ⟨_, rfl⟩
     rw [hf] at HFC hfo hhit
     obtain ⟨gl, hgl⟩ : ∃ gl, g.length = gl := ⟨_, rfl⟩
     rw [hgl] at p0 HFC
     have hcnt : ((G.take (j + 1)).filter HP).length = ((G.take j).filter HP).length + (if HP g = true then 1 else 0) := by
      rw [take_snoc' hg, List.filter_append, List.length_append]
      by_cases h : HP g = true <;> simp [h]
     obtain ⟨hp, hhp⟩ : ∃ hp, HP g = hp := ⟨_, rfl⟩
     rw [hhp] at hhit hcnt
     obtain ⟨⟨fo, ft⟩, fb⟩ := f
     simp only at HFC hfo hhit
     have HHIT0 := hid hhit
     have HCNT0 := hid hcnt
     have x1 := HCW.out wr HXK.out
     have hjg : (j : Int) < (ng : Int) := by omega
     clear hcs hvg hg hgm hf hgl hc3 hc4 hhit hcnt hhp
     go_wp2_with fail
     refine (HFC.out).mono ?_
     rintro e w3 ⟨_, rfl, ⟨A5, n5, c5, B5, m5, e5, rfl, hi5, hv5⟩, hx3⟩
     have HFD := hid (fun (w' : World) (hw : Ext w3 w') => (FdV.ext ⟨A5, n5, c5, B5, m5, e5, rfl, hi5, hv5.all⟩ hw : FdV (1 + 1) w' All (.agg #[.int .i64 fo, .int .i64 ft.kind, .int .i64 ft.size, .int .i64 ft.count, .slice A5 n5 c5, .slice B5 m5 e5]) (fo, ft)))
     have HEC := hid (fun (w' : World) (hw : Ext w3 w') => rend_any (1 + 1) w' (fo, ft) _ (HFD.out w' hw) hfo.1 hfo.2)
     obtain ⟨en, hen⟩ : ∃ en, endF (fo, ft) = en := ⟨_, rfl⟩
     rw [hen] at HEC
     obtain ⟨W2, hW2⟩ : ∃ W2, w3.alloc (.cells #[.int .i64 fo, .int .i64 ft.kind, .int .i64 ft.size, .int .i64 ft.count, .slice A5 n5 c5, .slice B5 m5 e5] 48) = W2 := ⟨_, rfl⟩
     have hE2 : Ext w3 W2 := by rw [← hW2]; exact (Ext.refl _).alloc _
     have q0 : W2.cell? ⟨w3.heap.size, 0, none⟩ = some (.int .i64 fo) := by rw [← hW2]; simp [go_sem]
     have q1 : W2.cell? ⟨w3.heap.size, 1, none⟩ = some (.int .i64 ft.kind) := by rw [← hW2]; simp [go_sem]
     have q2 : W2.cell? ⟨w3.heap.size, 2, none⟩ = some (.int .i64 ft.size) := by rw [← hW2]; simp [go_sem]
     have q3 : W2.cell? ⟨w3.heap.size, 3, none⟩ = some (.int .i64 ft.count) := by rw [← hW2]; simp [go_sem]
     have q4 : W2.cell? ⟨w3.heap.size, 4, none⟩ = some (.slice A5 n5 c5) := by rw [← hW2]; simp [go_sem]
     have q5 : W2.cell? ⟨w3.heap.size, 5, none⟩ = some (.slice B5 m5 e5) := by rw [← hW2]; simp [go_sem]
     have HE2 := hid hE2
     have HO2 := hid (HOY.out.ext (hx3.trans hE2))
     have HXW := hid (HXK.out.trans (hx3.trans hE2))
     have HFR2 := hid (HFR.out.ext (hx3.trans hE2))
     have x1 := (hx3.trans hE2).cell x1
     have HEN := hid hen
     obtain ⟨cn, hcn⟩ : ∃ cn, ((G.take j).filter HP).length = cn := ⟨_, rfl⟩
     have hol := HOL.out
     have hc0 := HCNT0.out
     rw [hcn] at hol hc0
     have HOL := hid hol
     have HCNT := hid hc0
     have hyl := hol.2
     have HYL := hid hyl
     clear hi5 hv5 hx3 hE2 p0 hen hcn hol hc0 hfo hyl
     cases fb with
     | false =>
      have HHIT : Hid (hp = false) := hid (by rw [HHIT0.out]; rfl)
      go_wp2_with fail
      refine wp_region_held_drew (S := (fun w' => w'.cell? ⟨b, off + k * 4 + 1, none⟩ = some (.int .i64 xo) ∧ w'.cell? ⟨w3.heap.size, 0, none⟩ = some (.int .i64 fo) ∧ w'.cell? ⟨w3.heap.size, 1, none⟩ = some (.int .i64 ft.kind) ∧ w'.cell? ⟨w3.heap.size, 2, none⟩ = some (.int .i64 ft.size) ∧ w'.cell? ⟨w3.heap.size, 3, none⟩ = some (.int .i64 ft.count) ∧ w'.cell? ⟨w3.heap.size, 4, none⟩ = some (.slice A5 n5 c5) ∧ w'.cell? ⟨w3.heap.size, 5, none⟩ = some (.slice B5 m5 e5))) (by kernel_rfl) ⟨x1, q0, q1, q2, q3, q4, q5⟩ (fun hSg69q0 => ?_)
      refine rgT2 0 1 ?_
      refine rgU4 2 3 4 5 ?_
      refine rgU4 6 7 8 9 ?_
      refine rgT2 10 11 ?_
      refine rgU4 12 13 14 15 ?_
      refine rgU2 16 17 ?_
      refine rgC 18 (fun K hK => ?_)
      refine cast (if_neg (fun h => Bool.noConfusion (show false = true from h))).symm ?_
      refine rgK hK (by assumption) (fun hSg69q1 => ?_)
      clear hK K
      refine rgU 19 ?_
      refine rgT 20 ?_
      refine wpAnyH_done (by kernel_rfl) ?_ _
      have HCN := hid (HCNT.out.trans (by first | (rw [HHIT.out]; done) | (rw [HHIT.out]; rfl)))
      clear q0 q1 q2 q3 q4 q5 x1
      go_wp2
      first
       | go_roundw
       | refine ⟨?rel, ?measure⟩
      case rel => exact ⟨j + 1, m2, A7, c7, Y, by omega, by omega, by go_num, rfl, hid (by rw [HCN.out]; exact HOL.out), hid (HO2.out.ext (Ext.refl W2).drew), hid (HXW.out.trans (Ext.refl W2).drew), hid (HFR2.out.ext (Ext.refl W2).drew), HOB⟩
      case measure => simp [intOf]; omega
     | true =>
      by_cases h4 : fo ≤ xo
      case neg =>
       have g1 : decide (xo ≥ fo) = false := decide_eq_false (by omega)
       have HHIT : Hid (hp = false) := hid (by rw [HHIT0.out, decide_eq_false h4]; rfl)
       clear h4
       go_wp2_with fail
       refine wp_region_held_drew (S := (fun w' => w'.cell? ⟨b, off + k * 4 + 1, none⟩ = some (.int .i64 xo) ∧ w'.cell? ⟨w3.heap.size, 0, none⟩ = some (.int .i64 fo) ∧ w'.cell? ⟨w3.heap.size, 1, none⟩ = some (.int .i64 ft.kind) ∧ w'.cell? ⟨w3.heap.size, 2, none⟩ = some (.int .i64 ft.size) ∧ w'.cell? ⟨w3.heap.size, 3, none⟩ = some (.int .i64 ft.count) ∧ w'.cell? ⟨w3.heap.size, 4, none⟩ = some (.slice A5 n5 c5) ∧ w'.cell? ⟨w3.heap.size, 5, none⟩ = some (.slice B5 m5 e5))) (by kernel_rfl) ⟨x1, q0, q1, q2, q3, q4, q5⟩ (fun hSg70q0 => ?_)
       refine rgT6 0 1 2 3 4 5 ?_
       refine rgT6 6 7 8 9 10 11 ?_
       refine rgU4 12 13 14 15 ?_
       refine rgU2 16 17 ?_
       refine rgC 18 (fun K hK => ?_)
       refine cast (if_neg (fun h => Bool.noConfusion (show false = true from h))).symm ?_
       refine rgK hK (by assumption) (fun hSg70q1 => ?_)
       clear hK K
       refine rgU 19 ?_
       refine rgT 20 ?_
       refine wpAnyH_done (by kernel_rfl) ?_ _
       have HCN := hid (HCNT.out.trans (by first | (rw [HHIT.out]; done) | (rw [HHIT.out]; rfl)))
       clear q0 q1 q2 q3 q4 q5 x1
       go_wp2
       first
        | go_roundw
        | refine ⟨?rel, ?measure⟩
       case rel => exact ⟨j + 1, m2, A7, c7, Y, by omega, by omega, by go_num, rfl, hid (by rw [HCN.out]; exact HOL.out), hid (HO2.out.ext (Ext.refl W2).drew), hid (HXW.out.trans (Ext.refl W2).drew), hid (HFR2.out.ext (Ext.refl W2).drew), HOB⟩
       case measure => simp [intOf]; omega
      have g1 : decide (xo ≥ fo) = true := decide_eq_true h4
      have HHIT1 : Hid (hp = decide (xo < en)) := hid (by rw [HHIT0.out, decide_eq_true h4, HEN.out]; rfl)
      clear h4
      go_wp2_with fail
      refine wp_region_held_drew (S := (fun w' => w'.cell? ⟨b, off + k * 4 + 1, none⟩ = some (.int .i64 xo) ∧ w'.cell? ⟨w3.heap.size, 0, none⟩ = some (.int .i64 fo) ∧ w'.cell? ⟨w3.heap.size, 1, none⟩ = some (.int .i64 ft.kind) ∧ w'.cell? ⟨w3.heap.size, 2, none⟩ = some (.int .i64 ft.size) ∧ w'.cell? ⟨w3.heap.size, 3, none⟩ = some (.int .i64 ft.count) ∧ w'.cell? ⟨w3.heap.size, 4, none⟩ = some (.slice A5 n5 c5) ∧ w'.cell? ⟨w3.heap.size, 5, none⟩ = some (.slice B5 m5 e5))) (by kernel_rfl) ⟨x1, q0, q1, q2, q3, q4, q5⟩ (fun hSg71q0 => ?_)
      refine rgT6 0 1 2 3 4 5 ?_
      refine rgT6 6 7 8 9 10 11 ?_
      refine rgT6 12 13 14 15 16 17 ?_
      refine rgC 18 (fun K hK => ?_)
      go_simp
      go_at_call 64
      refine (HEC.out _ (HE2.out.trans (Ext.refl W2).drew)).mono ?_
      rintro e w8 ⟨rfl, hx8⟩
      have HX8 := hid hx8.drew_left
      clear hx8
      refine rgK hK ⟨HX8.out.cell x1, HX8.out.cell q0, HX8.out.cell q1, HX8.out.cell q2, HX8.out.cell q3, HX8.out.cell q4, HX8.out.cell q5⟩ (fun hSg71q1 => ?_)
      clear hK K
      refine rgT2 19 20 ?_
      refine wpAnyH_done (by kernel_rfl) ?_ _
      by_cases h5 : xo < en
      case neg =>
       have g2 : decide (xo < en) = false := decide_eq_false h5
       have HHIT : Hid (hp = false) := hid (by rw [HHIT1.out, g2])
       have HCN := hid (HCNT.out.trans (by first | (rw [HHIT.out]; done) | (rw [HHIT.out]; rfl)))
       clear q0 q1 q2 q3 q4 q5 x1
       go_wp2
       first
        | go_roundw
        | refine ⟨?rel, ?measure⟩
       case rel => exact ⟨j + 1, m2, A7, c7, Y, by omega, by omega, by go_num, rfl, hid (by rw [HCN.out]; exact HOL.out), hid (HO2.out.ext HX8.out), hid (HXW.out.trans HX8.out), hid (HFR2.out.ext HX8.out), HOB⟩
       case measure => simp [intOf]; omega
      have g2 : decide (xo < en) = true := decide_eq_true h5
      have HHIT : Hid (hp = true) := hid (by rw [HHIT1.out, g2])
      have HCN := hid (HCNT.out.trans (show _ = cn + 1 by rw [HHIT.out]; rfl))
      have HO8 := hid (HO2.out.ext HX8.out)
      have HX9 := hid (HXW.out.trans HX8.out)
      have HFR9 := hid (HFR2.out.ext (HX8.out.trans ((Ext.refl w8).alloc (.cells #[.int .i64 k] 3))))
      clear q0 q1 q2 q3 q4 q5 x1
      go_wp2_with (first
       | (at_builtin; refine wpList_app1l rfl (.tmp 91) (.tmp 93) 36 rfl w.heap.size 3 j0 _ 1 8 Tryz.underlying36 HJ.out HJ0.out HJ1.out HJ2.out rfl offR rfl (.slice A7 m2 c7) Y rfl HO8.out w8.heap.size rfl k rfl ⟨rfl, by omega⟩ (by have := HYL.out; omega) (by have := HYL.out; omega) (by exact HX9.out.size) ?_; intro A9 c9 w9 hown9 hg9 hloc9; rw [HYL.out] at hown9 hloc9; have HO9 := hid hown9; have HX10 := hid ((HX9.out.alloc _).grown hg9 (fun q hq => (HO8.out.block q hq).1)); have HFR10 := hid (HFR9.out.grown hg9 HOB.out); have HOB10 : Hid (∀ q, (Value.slice A9 (m2 + 1) c9).ownBlock = some q → q < w5.heap.size ∨ wg.heap.size ≤ q) := hid (fun q hq => by
           rcases hloc9 q hq with h | h
           ·exact HOB.out q h
           ·have h2 := HFR2.out.sz
            have h3 := HX8.out.size
            exact .inr (by omega)); clear hown9 hg9 hloc9; rw [HYL.out])
       | fail)
      first
       | go_roundw
       | refine ⟨?rel, ?measure⟩
      case rel => exact ⟨j + 1, m2 + 1, A9, c9, Y ++ [k], by omega, by omega, by go_num, rfl, hid ⟨by rw [HCN.out, HOL.out.1, List.replicate_succ', List.append_assoc], by rw [List.length_append, HYL.out]; rfl⟩, HO9, HX10, HFR10, HOB10⟩
      case measure => simp [intOf]; omega
end Go.Proofs.YtacmjhcfjhpkeaaGreatDoor
