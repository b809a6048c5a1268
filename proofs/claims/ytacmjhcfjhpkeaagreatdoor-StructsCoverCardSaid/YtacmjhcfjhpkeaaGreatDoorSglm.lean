/- structs: Strides. Layouts as the document's answer computes them: plain law. -/
import Derived.Test.YtacmjhcfjhpkeaaGreatDoorStam
import Derived.Test.YtacmjhcfjhpkeaaGreatDoorSrtm
import Derived.Test.YtacmjhcfjhpkeaaGreatDoorPlbm
import Derived.Test.YtacmjhcfjhpkeaaGreatDoorStrCm
namespace Go.Proofs.YtacmjhcfjhpkeaaGreatDoor
open Go.RowKit Go.Deco
set_option linter.unusedSimpArgs false
set_option linter.unusedVariables false

theorem info_int34 : (Tryz.prog.info? 3).map (fun i => (i.zero, i.size, i.bytes)) = some (some (.int .i64 0), 1, 8) := by kernel_rfl
/-- The offsets of the valid accesses, as numbers. -/
def offN (l : List Acc) : List Nat := (l.filter validA).map fun a => a.off.toNat
def gapN (L : List Nat) (k : Nat) : Int := (L.getD (k + 1) 0 : Int) - (L.getD k 0 : Int)
def stepAll (L : List Nat) : Bool := (List.range (L.length - 1)).all fun k => decide (gapN L k = gapN L 0)
def strideL (L : List Nat) : Int × Bool := if L.length < 2 then (0, false) else if stepAll L then (gapN L 0, true) else (0, false)
theorem offN_snoc {l : List Acc} {k : Nat} {x : Acc} (hx : l[k]? = some x) : offN (l.take (k + 1)) = if validA x = true then offN (l.take k) ++ [x.off.toNat] else offN (l.take k) := by
 unfold offN
 rw [take_snoc' hx, List.filter_append]
 by_cases h : validA x = true <;> simp [h]
def StrideIs (w : World) (r : Int × Bool) (e : Ending) (w' : World) : Prop := e = .returned (.tuple #[.int .i64 r.1, .bool r.2]) ∧ Ext w w'
theorem sorted_asc (l : List Nat) : ddn (sorted32 l) (sorted32 l).length = asc l := by
 have hp : (sorted32 l).Pairwise (· ≤ ·) := by
  have h1 : (sorted32 l).Pairwise (fun a b => decide (a ≤ b) = true) := List.pairwise_mergeSort (fun a b c h1 h2 => by simp at h1 h2 ⊢; omega) (fun a b => by simp; omega) l
  exact h1.imp fun h => by simpa using h
 rw [ddn_sorted hp _ (Nat.le_refl _), List.take_length]
 exact asc_eq fun a => sorted32_mem
theorem stepAll_false {L : List Nat} {k : Nat} (hk : k + 1 < L.length) (h : gapN L k ≠ gapN L 0) : stepAll L = false := by
 rw [Bool.eq_false_iff]
 intro e
 have := List.all_eq_true.1 e k (List.mem_range.2 (by omega))
 exact h (by simpa using this)
theorem stepAll_true {L : List Nat} (h : ∀ k, k + 1 < L.length → gapN L k = gapN L 0) : stepAll L = true := by
 refine List.all_eq_true.2 fun k hk => ?_
 have := List.mem_range.1 hk
 simpa using h k (by omega)

set_option maxRecDepth 100000 in
set_option maxHeartbeats 4000000 in
theorem strides_any (w : World) (A : Option Addr) (n c : Nat) (l : List Acc) (hl : Sl accR w All (.slice A n c) l) (hn : n ≤ 100000) :
  Calls Tryz.prog 24 #[.slice A n c] w (StrideIs w (strideL (asc (offN l)))) := by
 have hln := hl.len
 obtain ⟨L, hL⟩ : ∃ L, asc (offN l) = L := ⟨_, rfl⟩
 rw [hL]
 obtain ⟨R, hR⟩ : ∃ R, strideL L = R := ⟨_, rfl⟩
 rw [hR]
 have HR := hid hR
 have HL0 := hid hL
 have HLN := hid hln
 have HL := hid hl
 obtain ⟨j0, hj, hj0, hj1, hj2⟩ := info_parts info_int34
 have HJ := hid hj
 have HJ0 := hid hj0
 have HJ1 := hid hj1
 have HJ2 := hid hj2
 clear hj hj0 hj1 hj2 hln hl hL hR
 unfold StrideIs
 go_enter Tryz.func24, Tryz.ntmps24
 go_wp2
 go_loopw [11, 4] (fun i s4 wr => ∃ (k m : Nat) (A2 : Option Addr) (c2 : Nat) (X : List Nat), k ≤ n ∧ m ≤ k ∧ i = .int .i64 k ∧ s4 = .slice A2 m c2 ∧ Hid (offN (l.take k) = X) ∧ Hid (X.length = m) ∧ Hid (OwnS offR wr w.heap.size 3 All (.slice A2 m c2) X) ∧ Hid (Ext w wr)) (fun i _ _ => n - (intOf i).toNat)
 case atStart => exact ⟨0, 0, none, 0, [], by omega, by omega, rfl, rfl, hid rfl, hid rfl, hid OwnS.nil, hid (Ext.refl _)⟩
 case round =>
  obtain ⟨k, m, A2, c2, X, hk, hm, rfl, rfl, HXE, HXL, HO, HX⟩ := hrel
  by_cases h1 : k < n
  ·obtain ⟨x, hx⟩ : ∃ x, l[k]? = some x := ⟨_, List.getElem?_eq_getElem (by have := HLN.out; omega)⟩
   obtain ⟨b, off, rfl, x0, x1, x2, x3, hi0, hi1, hi2⟩ := (HL.out.ext HX.out).acc_at hx
   have hsn := offN_snoc hx
   rw [HXE.out] at hsn
   have hval := valid_iff (a := x)
   obtain ⟨z, hz⟩ : ∃ z, validA x = z := ⟨_, rfl⟩
   have HVC := hid (fun (w' : World) => valid_any w' x)
   rw [hz] at HVC hsn hval
   have HSN := hid hsn
   have HVAL := hid hval
   unfold accV at HVC
   obtain ⟨xb, xo, xw, xs⟩ := x
   simp only at x0 x1 x2 x3 HVC HSN HVAL
   obtain ⟨W2, hW2⟩ : ∃ W2, wr.alloc (.cells #[.int .i64 xb, .int .i64 xo, .int .i64 xw, .bool xs] 59) = W2 := ⟨_, rfl⟩
   have hE2 : Ext wr W2 := by rw [← hW2]; exact (Ext.refl _).alloc _
   have q0 : W2.cell? ⟨wr.heap.size, 0, none⟩ = some (.int .i64 xb) := by rw [← hW2]; simp [go_sem]
   have q1 : W2.cell? ⟨wr.heap.size, 1, none⟩ = some (.int .i64 xo) := by rw [← hW2]; simp [go_sem]
   have q2 : W2.cell? ⟨wr.heap.size, 2, none⟩ = some (.int .i64 xw) := by rw [← hW2]; simp [go_sem]
   have q3 : W2.cell? ⟨wr.heap.size, 3, none⟩ = some (.bool xs) := by rw [← hW2]; simp [go_sem]
   have HE2 := hid hE2
   clear hx hi0 hi1 hi2 hz hE2 hsn hval
   go_wp2_with fail
   clear hW2 x0 x1 x2 x3
   refine (HVC.out _).mono ?_
   rintro e w5 ⟨rfl, hx5⟩
   have q1 := hx5.cell q1
   have HX5 := hid (HX.out.trans (HE2.out.trans hx5))
   have HO5 := hid (HO.out.ext (HE2.out.trans hx5))
   clear hx5 q0 q2 q3
   cases z with
   | false =>
    go_wp2_with fail
    first
     | go_roundw
     | refine ⟨?rel, ?measure⟩
    case rel => exact ⟨k + 1, m, A2, c2, X, by omega, by omega, by go_num, rfl, hid (by rw [HSN.out]; simp), HXL, HO5, HX5⟩
    case measure => simp [intOf]; omega
   | true =>
    obtain ⟨y, rfl⟩ : ∃ y : Nat, xo = (y : Int) := ⟨xo.toNat, by have := HVAL.out.1 rfl; omega⟩
    have HY : Hid (y < 65536) := hid (by have := HVAL.out.1 rfl; omega)
    go_wp2_with (first
     | (at_builtin; refine wpList_app1s rfl (.tmp 17) (.tmp 20) 36 rfl w.heap.size 3 j0 _ 1 8 Tryz.underlying36 HJ.out HJ0.out HJ1.out HJ2.out rfl offR rfl (.slice A2 m c2) X rfl HO5.out w5.heap.size rfl y rfl ⟨rfl, HY.out⟩ (by have := HXL.out; omega) (by have := HXL.out; omega) (by exact HX5.out.size) ?_; intro A6 c6 w6 hown6 hg6; rw [HXL.out] at hown6; have HO6 := hid hown6; have HX6 := hid ((HX5.out.alloc _).grown hg6 (fun q hq => (HO5.out.block q hq).1)); clear hown6 hg6; rw [HXL.out])
     | fail)
    clear q1
    first
     | go_roundw
     | refine ⟨?rel, ?measure⟩
    case rel => exact ⟨k + 1, m + 1, A6, c6, X ++ [y], by omega, by omega, by go_num, rfl, hid (by rw [HSN.out]; simp), hid (by rw [List.length_append, HXL.out]; rfl), HO6, HX6⟩
    case measure => simp [intOf]; omega
  ·obtain rfl : k = n := by omega
   have hxe := HXE.out
   rw [List.take_of_length_le (by have := HLN.out; omega)] at hxe
   have hxl := HXL.out
   subst hxl
   have HS := hid (sorti_own HO.out (by omega))
   have HXE2 := hid hxe
   have HSL := hid (sorted32_length X)
   clear hxe HXE HXL
   obtain ⟨m, hm0⟩ : ∃ m, X.length = m := ⟨_, rfl⟩
   rw [hm0] at HS HSL hm ⊢
   have HOB := hid (fun q hq => HO.out.block q hq)
   rw [hm0] at HOB
   clear HO
   have HM0 := hid hm0
   clear hm0
   go_wp2_with fail
   refine (HS.out).mono ?_
   rintro e w2 ⟨rfl, ho2, hg2⟩
   have HX2 := hid (HX.out.grown hg2 (fun q hq => (HOB.out q hq).1))
   have HC := hid (compacti_any w w2 HX2.out A2 m c2 (sorted32 X) ho2 (by omega))
   rw [show ddn (sorted32 X) m = L from by rw [← HL0.out, HXE2.out, ← sorted_asc, HSL.out]] at HC
   clear ho2 hg2
   go_wp2_with fail
   refine (HC.out).mono ?_
   rintro e w3 ⟨hx3, A3, c3, rfl, ho3⟩
   have HX3 := hid hx3
   have HO3 := hid ho3
   obtain ⟨q, hq⟩ : ∃ q, L.length = q := ⟨_, rfl⟩
   rw [hq] at HO3 ⊢
   have HQ := hid hq
   have hq5 : q ≤ 100000 := by
    have h1 := asc_len (offN l)
    rw [HL0.out] at h1
    have h2 : (offN l).length ≤ l.length := by unfold offN; rw [List.length_map]; exact List.length_filter_le _ _
    have := HLN.out
    omega
   clear hx3 ho3 hq
   by_cases h2 : q < 2
   ·have d2 : decide ((q : Int) < 2) = true := decide_eq_true (by omega)
    have HRV : Hid (R = (0, false)) := hid (by rw [← HR.out, strideL, if_pos (by have := HQ.out; omega)])
    have hq2 : (q : Int) < 2 := by omega
    clear h2
    go_wp2
    go_ret2
    exact ⟨by rw [HRV.out]; rfl, HX3.out⟩
   ·have d2 : decide ((q : Int) < 2) = false := decide_eq_false (by omega)
    have hq2 : ¬ (q : Int) < 2 := by omega
    obtain ⟨g, rfl, hg1, hg2⟩ := HO3.out.at0 (by omega)
    obtain ⟨a, ha⟩ : ∃ a, L[0]? = some a := ⟨_, List.getElem?_eq_getElem (by have := HQ.out; omega)⟩
    obtain ⟨b, hb⟩ : ∃ b, L[1]? = some b := ⟨_, List.getElem?_eq_getElem (by have := HQ.out; omega)⟩
    have ca := (HO3.out.num_cell ha).1
    have cb := (HO3.out.num_cell hb).1
    have hg0 : gapN L 0 = (b : Int) - (a : Int) := by rw [gapN, List.getD_eq_getElem?_getD, List.getD_eq_getElem?_getD, hb, ha]; rfl
    have hlt : ∀ x ∈ L, x < 65536 := HO3.out.num_lt
    have hal := hlt a (List.mem_of_getElem? ha)
    have hbl := hlt b (List.mem_of_getElem? hb)
    have hstr : R = if stepAll L = true then (gapN L 0, true) else (0, false) := by rw [← HR.out, strideL, if_neg (by have := HQ.out; omega)]
    have HSTR := hid hstr
    have HG0 := hid hg0
    have HLT := hid hlt
    have hn1 : (1 : Int) < (q : Int) := by omega
    have hn0 : (0 : Int) < (q : Int) := by omega
    have hqq : (q : Int) - 1 = ((q - 1 : Nat) : Int) := by omega
    clear hstr hg0 hlt ha hb h2 hg1 hg2
    go_wp2_with fail
    go_quiet (fail)
    clear ca cb
    go_wp2
    go_loopw [40] (fun i wr => ∃ k : Nat, k ≤ q - 1 ∧ i = .int .i64 k ∧ Hid (∀ j, j < k → gapN L j = gapN L 0) ∧ Hid (Ext w wr) ∧ Hid (OwnS offR wr w.heap.size 3 All (.slice (some ⟨g, 0, none⟩) q c3) L)) (fun i _ => q - (intOf i).toNat)
    case atStart => exact ⟨0, by omega, rfl, hid (fun j h => by omega), hid (HX3.out.drewN _), hid (HO3.out.drN _)⟩
    case round =>
     obtain ⟨k, hk, rfl, HA, HX, HO⟩ := hrel
     by_cases h1 : k < q - 1
     ·have hjk : (k : Int) < ((q - 1 : Nat) : Int) := by omega
      obtain ⟨x, hx⟩ : ∃ x, L[k + 1]? = some x := ⟨_, List.getElem?_eq_getElem (by have := HQ.out; omega)⟩
      obtain ⟨y, hy⟩ : ∃ y, L[k]? = some y := ⟨_, List.getElem?_eq_getElem (by have := HQ.out; omega)⟩
      have cx := (HO.out.num_cell hx).1
      have cy := (HO.out.num_cell hy).1
      have hgk : gapN L k = (x : Int) - (y : Int) := by rw [gapN, List.getD_eq_getElem?_getD, List.getD_eq_getElem?_getD, hx, hy]; rfl
      have hxl := HLT.out x (List.mem_of_getElem? hx)
      have hyl := HLT.out y (List.mem_of_getElem? hy)
      have HGK := hid hgk
      have hkq : (k : Int) + 1 < (q : Int) := by omega
      have hkq0 : (k : Int) < (q : Int) := by omega
      clear hgk hx hy
      by_cases he : (x : Int) - (y : Int) = (b : Int) - (a : Int)
      ·have e1 : ((x : Int) - (y : Int) != (b : Int) - (a : Int)) = false := by simp [he]
       go_wp2_with fail
       go_quiet (fail)
       clear cx cy
       go_wp2
       first
        | go_roundw
        | refine ⟨?rel, ?measure⟩
       case rel =>
        refine ⟨k + 1, by omega, by go_num, hid (fun j h => ?_), hid (HX.out.drewN _), hid (HO.out.drN _)⟩
        rcases Nat.lt_or_ge j k with h5 | h5
        ·exact HA.out j h5
        ·obtain rfl : j = k := by omega
         rw [HGK.out, HG0.out, he]
       case measure => simp [intOf]; omega
      ·have e1 : ((x : Int) - (y : Int) != (b : Int) - (a : Int)) = true := by simp [he]
       have HRV : Hid (R = (0, false)) := hid (by rw [HSTR.out, stepAll_false (k := k) (by have := HQ.out; omega) (by rw [HGK.out, HG0.out]; exact he)]; rfl)
       clear he
       go_wp2_with fail
       go_quiet (fail)
       clear cx cy
       go_wp2
       go_ret2
       exact ⟨by rw [HRV.out]; rfl, HX.out.drewN _⟩
     ·have hkn : k = q - 1 := by omega
      subst hkn
      have HRV : Hid (R = ((b : Int) - (a : Int), true)) := hid (by rw [HSTR.out, stepAll_true (fun j hj => HA.out j (by have := HQ.out; omega)), if_pos rfl, HG0.out])
      go_wp2
      go_ret2
      exact ⟨by rw [HRV.out]; rfl, HX.out⟩
end Go.Proofs.YtacmjhcfjhpkeaaGreatDoor

namespace Go.Proofs.YtacmjhcfjhpkeaaGreatDoor
open Go.RowKit Go.Deco
set_option linter.unusedSimpArgs false
set_option linter.unusedVariables false

/-! ### groups -/
/-- One part more behind the groups; n: the end of the last group. -/
def grpQ (st : List (List (Int × Ty)) × Int) (f : (Int × Ty)) : List (List (Int × Ty)) × Int :=
 if st.1 = [] ∨ st.2 ≤ f.1 then (st.1 ++ [[f]], max 0 (endF f)) else (st.1.dropLast ++ [(st.1.getLast?.getD []) ++ [f]], max st.2 (endF f))
theorem grpS_ne (st : List (List (Int × Ty)) × Int) (f : (Int × Ty)) : (grpS st f).1 ≠ [] := by
 unfold grpS
 split <;> simp
theorem grpS_take {l : List (Int × Ty)} {k : Nat} {f : (Int × Ty)} (h : l[k]? = some f) (st : List (List (Int × Ty)) × Int) : (l.take (k + 1)).foldl grpS st = grpS ((l.take k).foldl grpS st) f := by
 rw [take_snoc' h, List.foldl_append]
 rfl
theorem grpS_zero {l : List (Int × Ty)} : (l.foldl grpS ([], 0)).1 = [] → (l.foldl grpS ([], 0)).2 = 0 := by
 induction l using snoc_ind with
 | h0 => intro _; rfl
 | hs l x _ =>
  intro h
  rw [List.foldl_append] at h
  exact absurd h (grpS_ne _ _)

/-! ### strides -/
/-- What has been found of the distance behind some ascending offsets. -/
def strSt (L : List Nat) : Int := if L.length < 2 then 0 else gapN L 0
end Go.Proofs.YtacmjhcfjhpkeaaGreatDoor
