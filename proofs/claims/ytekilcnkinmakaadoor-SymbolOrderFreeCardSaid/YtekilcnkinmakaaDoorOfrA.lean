/- SymbolOrderFree. -/
import Derived.Test.YtekilcnkinmakaaDoorStbF
import Derived.Test.YtekilcnkinmakaaDoorStbG
import Derived.Test.YtekilcnkinmakaaDoorStbP
import Derived.Test.YtekilcnkinmakaaDoorSymX
import Derived.Test.YtekilcnkinmakaaDoorSymY
namespace Go.Proofs.YtekilcnkinmakaaDoor
open Go.RowKit Go.Deco
set_option linter.unusedSimpArgs false
set_option linter.unusedVariables false

theorem fns_perm {l m : List Sy} (hp : l.Perm m) : fnsOf m = fnsOf l := by
  unfold fnsOf
  refine asc_eq fun a => ?_
  unfold fnAddrs
  simp only [List.mem_map, List.mem_filter, hp.mem_iff]
theorem rev_snoc {l : List Sy} {k : Nat} {x : Sy} (h : l[k]? = some x) : (l.drop k).reverse = (l.drop (k + 1)).reverse ++ [x] := by
  rw [drop_cons' h, List.reverse_cons]

set_option maxRecDepth 100000 in
set_option maxHeartbeats 4000000 in
theorem ofr_any (w : World) (ht : TabAt w) (A : Option Addr) (n c : Nat) (l : List Sy) (hl : Sl symR w All (.slice A n c) l) (a : Nat) (ha : a < 4294967296) (nm : ByteArray) :
    Calls Tryd.prog 10 #[.slice A n c, .int .u32 a, .string nm] w (OneBool w true) := by
  have HLN := hid hl.len
  obtain ⟨hnc, hcm⟩ := hl.cap
  obtain ⟨i0, hi, hz0, hz1, hz2⟩ := info_parts info_symG
  have HI := hid hi
  have HZ0 := hid hz0
  have HZ1 := hid hz1
  have HZ2 := hid hz2
  have HL := hid hl
  have HT := hid ht
  clear hi hz0 hz1 hz2 hl ht
  go_enter Tryd.func10, Tryd.ntmps10
  go_wp2_with fail
  refine (few_any w A n c l HL.out).mono ?_
  rintro e w' ⟨⟨b, rfl, hb⟩, rfl⟩
  cases b
  case' false =>
    clear hb
    go_wp2_with fail
    refine (example_any _ HT.out).mono ?_
    rintro e w1 ⟨rfl, hx⟩
    have HX := hid hx; clear hx
    go_wp2
    go_ret
    exact ⟨rfl, HX.out⟩
  have hn40 : n ≤ 40 := (hb rfl).1
  have HSZ := hid (hb rfl).2
  clear hb
  obtain ⟨z, hz⟩ : ∃ z, symCheck l = z := ⟨_, rfl⟩
  have HZ := hid hz
  clear hz
  go_wp2_with fail
  refine (sycheck_any w A n c l HL.out).mono ?_
  rintro e w1 ⟨rfl, hx1⟩
  have HX1 := hid hx1
  clear hx1
  rw [HZ.out]
  by_cases hz0 : z = 0
  · subst hz0
    have HU := hid (check_zero.1 HZ.out).2.2.1
    have w0 : IntKind.i64.wrap ((n : Int) - 1) = (n : Int) - 1 := IntWalk.i64_in _ (by omega)
    go_wp2
    go_loopw [7, 8] (fun v i wr => ∃ (k m : Nat) (A' : Option Addr) (c' : Nat), i = .int .i64 ((k : Int) - 1) ∧ v = .slice A' m c' ∧ Hid (k + m = n) ∧ Hid (OwnS symR wr w1.heap.size 27 All (.slice A' m c') (l.drop k).reverse) ∧ Hid (Ext w1 wr)) (fun _ i _ => (intOf i + 1).toNat)
    case atStart => exact ⟨n, 0, none, 0, rfl, rfl, hid (by omega), hid (by rw [List.drop_of_length_le (by have := HLN.out; omega)]; exact OwnS.nil), hid (Ext.refl _)⟩
    case round =>
      obtain ⟨k, m, A', c', rfl, rfl, HKM, HO, HX⟩ := hrel
      by_cases h1 : 0 < k
      · obtain ⟨q, rfl⟩ : ∃ q, k = q + 1 := ⟨k - 1, by omega⟩
        obtain ⟨x, hx⟩ : ∃ x, l[q]? = some x := ⟨_, List.getElem?_eq_getElem (by have := HLN.out; have := HKM.out; omega)⟩
        have HOK := hid (sym_ok HL.out hx)
        have HRS := hid (rev_snoc hx)
        obtain ⟨b, off, rfl, c0, c1, c2, -, -, -, -⟩ := (HL.out.ext (HX1.out.trans HX.out)).sym_at hx
        have hq1 : ((q + 1 : Nat) : Int) - 1 = (q : Int) := by omega
        have hqn : (q : Int) < (n : Int) := by have := HKM.out; omega
        have hq0 : (0 : Int) ≤ (q : Int) := by omega
        have hq2 : IntKind.i64.wrap ((q : Int) - 1) = (q : Int) - 1 := IntWalk.i64_in _ (by omega)
        have HML : Hid ((l.drop (q + 1)).reverse.length = m) := hid (by have := HKM.out; have := HLN.out; simp; omega)
        clear hx
        rw [hq1]
        obtain ⟨B, hB⟩ : ∃ B, (l.drop (q + 1)).reverse = B := ⟨_, rfl⟩
        rw [hB] at HO HML HRS
        clear hB hq1
        go_wp2_with (first
          | (at_builtin; refine wpList_app1 rfl (.tmp 35) (.tmp 40) 22 rfl w1.heap.size 27 i0 _ 3 32 Tryd.underlying22 HI.out HZ0.out HZ1.out HZ2.out rfl symR rfl (.slice A' m c') B rfl HO.out x rfl ⟨rfl, HOK.out⟩ (by have := HML.out; have := HKM.out; omega) (by have := HML.out; have := HKM.out; omega) (by exact HX.out.size) ?_; intro A5 c5 w5 hown5 hg5; rw [HML.out] at hown5; have HO5 := hid hown5; have HX5 := hid ((HX.out.alloc _).grown hg5 (fun k hk => (HO.out.block _ hk).1)); clear hown5 hg5 c0 c1 c2; rw [HML.out])
          | fail)
        first
          | go_roundw
          | refine ⟨?rel, ?measure⟩
        case rel => exact ⟨q, m + 1, A5, c5, rfl, rfl, hid (by have := HKM.out; omega), hid (by rw [HRS.out]; exact HO5.out), HX5⟩
        case measure => simp [intOf]
      · obtain rfl : k = 0 := by omega
        obtain rfl : m = n := by have := HKM.out; omega
        have hp : l.Perm (l.drop 0).reverse := by rw [List.drop_zero]; exact (List.reverse_perm l).symm
        obtain ⟨B, hB⟩ : ∃ B, (l.drop 0).reverse = B := ⟨_, rfl⟩
        rw [hB] at hp HO
        have HP := hid hp
        have HB := hid (HO.out.sl)
        clear hp hB HO
        have hm1 : ((0 : Nat) : Int) - 1 = -1 := rfl
        rw [hm1]
        have HE0 := hid (Ext.refl wr)
        have HL0 := hid (HL.out.ext (HX1.out.trans HX.out))
        have HT0 := hid (HT.out.ext (HX1.out.trans HX.out))
        have HXW := hid (HX1.out.trans HX.out)
        have HSZB : Hid (∀ s ∈ B, s.name.size ≤ 4096) := hid (fun s hs => HSZ.out s (HP.out.mem_iff.2 hs))
        obtain ⟨s1, b1, hq1⟩ : ∃ s b, (findSy l nm.data.toList).getD Sy.zero = s ∧ (findSy l nm.data.toList).isSome = b := ⟨_, _, rfl, rfl⟩
        obtain ⟨s3, b3, d3, hq3⟩ : ∃ s b d, (nearSy l a).getD Sy.zero = s ∧ (nearSy l a).isSome = b ∧ distOf (nearSy l a) a = d := ⟨_, _, _, rfl, rfl, rfl⟩
        have HQ1 := hid hq1
        have HQ3 := hid hq3
        have HQ2 : Hid ((findSy B nm.data.toList).getD Sy.zero = s1 ∧ (findSy B nm.data.toList).isSome = b1) := hid (by rw [find_perm HP.out HU.out]; exact hq1)
        have HQ4 : Hid ((nearSy B a).getD Sy.zero = s3 ∧ (nearSy B a).isSome = b3 ∧ distOf (nearSy B a) a = d3) := hid (by rw [near_perm HP.out HU.out]; exact hq3)
        clear hq1 hq3 hm1
        obtain ⟨V0, hV0⟩ : ∃ V, V = wr := ⟨_, rfl⟩
        obtain rfl := hV0
        have hV0 : True := trivial
        go_wp2_with fail
        clear hV0
        refine (syfind_any _ _ _ _ l (HL0.out.ext HE0.out) nm).mono ?_
        rintro e w1 ⟨hx1, rfl⟩
        rw [HQ1.out.1, HQ1.out.2]
        simp only [syVal]
        have hp1 := SyAt.new w1 s1 27
        obtain ⟨V1, hV1⟩ : ∃ V, w1.alloc (.cells #[.string s1.name, .int .u32 s1.addr, .int .i64 s1.kind] 27) = V := ⟨_, rfl⟩
        rw [hV1] at hp1
        have hE1 : Ext V0 V1 := hx1.trans (by rw [← hV1]; exact (Ext.refl w1).alloc _)
        have HE1 := hid (HE0.out.trans hE1)
        have HD1 := hid hE1
        have HP1 := hid hp1
        clear hx1 hE1 hp1
        go_wp2_with fail
        clear hV1
        refine (syfind_any _ _ _ _ B (HB.out.ext HE1.out) nm).mono ?_
        rintro e w2 ⟨hx2, rfl⟩
        rw [HQ2.out.1, HQ2.out.2]
        simp only [syVal]
        have hp2 := SyAt.new w2 s1 27
        obtain ⟨V2, hV2⟩ : ∃ V, w2.alloc (.cells #[.string s1.name, .int .u32 s1.addr, .int .i64 s1.kind] 27) = V := ⟨_, rfl⟩
        rw [hV2] at hp2
        have hE2 : Ext V1 V2 := hx2.trans (by rw [← hV2]; exact (Ext.refl w2).alloc _)
        have HE2 := hid (HE1.out.trans hE2)
        have HD2 := hid hE2
        have HP2 := hid hp2
        clear hx2 hE2 hp2
        go_wp2_with fail
        clear hV2
        refine (synear_any _ _ _ _ l (HL0.out.ext HE2.out) a ha).mono ?_
        rintro e w3 ⟨hx3, rfl⟩
        rw [HQ3.out.1, HQ3.out.2.1, HQ3.out.2.2]
        simp only [syVal]
        have hp3 := SyAt.new w3 s3 27
        obtain ⟨V3, hV3⟩ : ∃ V, w3.alloc (.cells #[.string s3.name, .int .u32 s3.addr, .int .i64 s3.kind] 27) = V := ⟨_, rfl⟩
        rw [hV3] at hp3
        have hE3 : Ext V2 V3 := hx3.trans (by rw [← hV3]; exact (Ext.refl w3).alloc _)
        have HE3 := hid (HE2.out.trans hE3)
        have HD3 := hid hE3
        have HP3 := hid hp3
        clear hx3 hE3 hp3
        go_wp2_with fail
        clear hV3
        refine (synear_any _ _ _ _ B (HB.out.ext HE3.out) a ha).mono ?_
        rintro e w4 ⟨hx4, rfl⟩
        rw [HQ4.out.1, HQ4.out.2.1, HQ4.out.2.2]
        simp only [syVal]
        have hp4 := SyAt.new w4 s3 27
        obtain ⟨V4, hV4⟩ : ∃ V, w4.alloc (.cells #[.string s3.name, .int .u32 s3.addr, .int .i64 s3.kind] 27) = V := ⟨_, rfl⟩
        rw [hV4] at hp4
        have hE4 : Ext V3 V4 := hx4.trans (by rw [← hV4]; exact (Ext.refl w4).alloc _)
        have HE4 := hid (HE3.out.trans hE4)
        have HD4 := hid hE4
        have HP4 := hid hp4
        clear hx4 hE4 hp4
        have HZB := hid (check_perm HP.out HZ.out)
        go_wp2_with fail
        refine (sycheck_any _ _ _ _ B (HB.out.ext HE4.out)).mono ?_
        rintro e w5 ⟨rfl, hx5⟩
        have HD5 := hid hx5
        have HE5 := hid (HE4.out.trans hx5)
        clear hx5
        rw [HZB.out]
        obtain ⟨p10, p11, p12, -⟩ := HP1.out.ext (HD2.out.trans (HD3.out.trans (HD4.out.trans HD5.out)))
        obtain ⟨p20, p21, p22, -⟩ := HP2.out.ext (HD3.out.trans (HD4.out.trans HD5.out))
        obtain ⟨p30, p31, p32, -⟩ := HP3.out.ext (HD4.out.trans HD5.out)
        obtain ⟨p40, p41, p42, -⟩ := HP4.out.ext HD5.out
        obtain ⟨y, hy⟩ : ∃ y, nameAt l a = y := ⟨_, rfl⟩
        have HY := hid hy
        have HY2 : Hid (nameAt B a = y) := hid (by unfold nameAt; unfold nameAt at hy; rw [near_perm HP.out HU.out]; exact hy)
        clear hy
        go_wp2_with fail
        refine (syname2_any w5 (HT0.out.ext HE5.out) _ _ _ l (HL0.out.ext HE5.out) a ha HSZ.out).mono ?_
        rintro e w6 ⟨rfl, hx6⟩
        have HE6 := hid (HE5.out.trans hx6)
        rw [HY.out]
        clear hx6 p10 p11 p12 p20 p21 p22 p30 p31 p32 p40 p41 p42
        go_wp2_with fail
        refine (syname2_any w6 (HT0.out.ext HE6.out) _ _ _ B (HB.out.ext HE6.out) a ha HSZB.out).mono ?_
        rintro e w7 ⟨rfl, hx7⟩
        have HE7 := hid (HE6.out.trans hx7)
        rw [HY2.out]
        clear hx7
        have hlen := stab_len ltS l
        obtain ⟨M, hM⟩ : ∃ M, stab ltS l = M := ⟨_, rfl⟩
        rw [hM] at hlen
        have HM2 : Hid (stab ltS B = M) := hid ((sort_perm HP.out HU.out).trans hM)
        have HN : Hid (M.length = m) := hid (by have := HLN.out; omega)
        have HC8 := hid (ssorted_any w7 A _ c l (HL0.out.ext HE7.out) hn40)
        rw [hM] at HC8
        clear hlen hM
        go_wp2_with fail
        refine (HC8.out).mono ?_
        rintro e w8 ⟨hx8, A8, c8, rfl, hs8⟩
        rw [HN.out] at hs8 ⊢
        have HE8 := hid (HE7.out.trans hx8)
        have HS8 := hid hs8
        clear hx8 hs8 HC8
        have HC9 := hid (ssorted_any w8 _ _ _ B (HB.out.ext HE8.out) hn40)
        rw [HM2.out] at HC9
        go_wp2_with fail
        refine (HC9.out).mono ?_
        rintro e w9 ⟨hx9, A9, c9, rfl, hs9⟩
        rw [HN.out] at hs9 ⊢
        have HE9 := hid (HE8.out.trans hx9)
        have HS89 := hid (HS8.out.ext hx9)
        have HS9 := hid hs9
        clear hx9 hs9 HC9
        go_wp2_with fail
        refine (sames_eq w9 A8 A9 _ _ _ M HS89.out HS9.out).mono ?_
        rintro e w10 ⟨rfl, hx10⟩
        have HE10 := hid (HE9.out.trans hx10)
        clear hx10
        obtain ⟨F, hF⟩ : ∃ F, fnsOf l = F := ⟨_, rfl⟩
        have HF := hid hF
        have HF2 : Hid (fnsOf B = F) := hid ((fns_perm HP.out).trans hF)
        clear hF
        go_wp2_with fail
        refine (syfuncs_any w10 _ _ _ l (HL0.out.ext HE10.out) (by omega)).mono ?_
        rintro e w11 ⟨hx11, A11, c11, rfl, hs11⟩
        rw [HF.out] at hs11 ⊢
        have HE11 := hid (HE10.out.trans hx11)
        have HS11 := hid hs11
        clear hx11 hs11
        go_wp2_with fail
        refine (syfuncs_any w11 _ _ _ B (HB.out.ext HE11.out) (by omega)).mono ?_
        rintro e w12 ⟨hx12, A12, c12, rfl, hs12⟩
        rw [HF2.out] at hs12 ⊢
        have HE12 := hid (HE11.out.trans hx12)
        have HS1112 := hid (HS11.out.ext hx12)
        have HS12 := hid hs12
        clear hx12 hs12
        obtain ⟨fm, hfm⟩ : ∃ fm, F.length = fm := ⟨_, rfl⟩
        rw [hfm] at HS1112 HS12 ⊢
        clear hfm
        go_wp2_with fail
        refine (words_any w12 w12 (Ext.refl _) A11 A12 fm fm c11 c12 F F HS1112.out HS12.out).mono ?_
        rintro e w13 ⟨rfl, hx13⟩
        have HE13 := hid (HE12.out.trans hx13)
        clear hx13
        rw [show decide (F = F) = true from decide_eq_true rfl]
        go_wp2_with fail
        refine (example_any _ (HT0.out.ext HE13.out)).mono ?_
        rintro e w14 ⟨rfl, hx14⟩
        have HE14 := hid (HXW.out.trans (HE13.out.trans hx14))
        clear hx14
        go_wp2
        go_ret
        exact ⟨rfl, HE14.out⟩
  · have hzz : ¬ (z : Int) = 0 := by omega
    go_wp2_with fail
    refine (example_any _ (HT.out.ext HX1.out)).mono ?_
    rintro e w2 ⟨rfl, hx2⟩
    have HX2 := hid (HX1.out.trans hx2)
    clear hx2
    go_wp2
    go_ret
    exact ⟨rfl, HX2.out⟩
end Go.Proofs.YtekilcnkinmakaaDoor
