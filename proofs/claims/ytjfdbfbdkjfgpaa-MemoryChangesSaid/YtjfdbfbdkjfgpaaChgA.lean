/- MemoryChanges: the walk of the statement. -/
import Derived.Test.YtjfdbfbdkjfgpaaLawC
import Derived.Test.YtjfdbfbdkjfgpaaFops
import Derived.Test.YtjfdbfbdkjfgpaaReg
import Derived.Deep.DeepCutAuto
namespace Go.Proofs.Ytjfdbfbdkjfgpaa
open Go.RowKit Go.Deco
set_option linter.unusedSimpArgs false
set_option linter.unusedVariables false

set_option maxRecDepth 100000 in
set_option maxHeartbeats 4000000 in
theorem chg_any (w : World) (A : Option Addr) (n c : Nat) (l : List Sec) (hl : Sl secR w All (.slice A n c) l) (B : Option Addr) (m d : Nat) (ops : List Op9) (hops : Sl opR w All (.slice B m d) ops) :
    Calls Try.prog 4 #[.slice A n c, .slice B m d] w (OneBool w true) := by
  have hlm := hops.len
  obtain ⟨hmd, hdm⟩ := hops.cap
  have HLM := hid hlm; clear hlm
  have HL := hid hl; clear hl
  have HO := hid hops; clear hops
  have HE := hid (Ext.refl w)
  go_enter Try.func4, Try.ntmps4
  go_wp2_with fail
  refine (few_any w A n c l (HL.out.ext HE.out)).mono ?_
  rintro e w' ⟨⟨b, rfl⟩, rfl⟩
  cases b
  case' false =>
    go_wp2_with fail
    refine (example_any _).mono ?_
    rintro e w1 ⟨rfl, hx⟩
    have HX := hid (HE.out.trans hx); clear hx
    go_wp2
    go_ret
    exact ⟨rfl, HX.out⟩
  go_wp2_with fail
  refine (fewOps_any w B m d ops HO.out).mono ?_
  rintro e w' ⟨⟨b, rfl, hb⟩, rfl⟩
  cases b
  case' false =>
    clear hb
    go_wp2_with fail
    refine (example_any _).mono ?_
    rintro e wz ⟨rfl, hx⟩
    have HX := hid (HE.out.trans (HE.out.trans hx)); clear hx
    go_wp2
    go_ret
    exact ⟨rfl, HX.out⟩
  have hm40 : m ≤ 40 := hb rfl
  clear hb
  go_wp2_with fail
  refine (new_any w A n c l (HL.out.ext HE.out)).mono ?_
  rintro e w1 ⟨hx1, ⟨h0, rfl⟩ | ⟨h0, mb, bm, rfl, hmb, hbm, hm⟩⟩
  · have H1 := hid (HE.out.trans hx1); clear hx1
    have h0' : ((secCheck l : Int) != 0) = true := by simpa using h0
    have HN := hid h0
    clear h0
    go_wp2_with fail
    refine (new_any w1 A n c l (HL.out.ext H1.out)).mono ?_
    rintro e w2 ⟨hx2, ⟨-, rfl⟩ | ⟨h0, -⟩⟩
    · have H2 := hid (H1.out.trans hx2); clear hx2
      obtain ⟨er, her⟩ : ∃ er, secCheck l = er := ⟨_, rfl⟩
      rw [her] at h0'
      rw [her]
      clear her HN
      go_wp2_with fail
      refine (example_any _).mono ?_
      rintro e wz ⟨rfl, hx⟩
      have HX := hid (HE.out.trans (H2.out.trans hx)); clear hx
      go_wp2
      go_ret
      exact ⟨rfl, HX.out⟩
    · exact absurd h0 HN.out
  have H1 := hid hx1; clear hx1
  have HM := hid hm; clear hm
  have HSC := hid h0; clear h0
  go_wp2_with fail
  refine (new_any w1 A n c l (HL.out.ext H1.out)).mono ?_
  rintro e w2 ⟨hx2, ⟨h0, rfl⟩ | ⟨-, fb, fm, rfl, hfb, hfm, hf⟩⟩
  · exact absurd HSC.out h0
  have H2 := hid (H1.out.trans hx2)
  have HM2 := hid (HM.out.ext hx2)
  have hbmlt : bm < w1.heap.size := by obtain ⟨_, _, _, _, _, _, ho, _⟩ := HM.out; exact ho.lt
  have hfne : fm ≠ bm := by omega
  have HF2 := hid hf
  clear hx2 hf hmb hbmlt hfb HM
  go_wp2
  have HM0 : Hid (Mem w2 mb bm (regsOf l) (storeAll (regsOf l) (fun _ => none) (ops.take 0)) 0) := hid (by simpa [storeAll] using HM2.out)
  go_loopw [10] (fun i wr => ∃ k : Nat, k ≤ m ∧ i = .int .i64 k ∧ Hid (Ext w wr) ∧ Hid (Mem wr mb bm (regsOf l) (storeAll (regsOf l) (fun _ => none) (ops.take k)) (4 * k)) ∧ Hid (Mem wr fb fm (regsOf l) (fun _ => none) 0)) (fun i _ => m - (intOf i).toNat)
  case atStart => exact ⟨0, by omega, rfl, H2, HM0, HF2⟩
  case round =>
    obtain ⟨k, hk, rfl, he, hmk, hfk⟩ := hrel
    by_cases h1 : k < m
    · obtain ⟨o, ho⟩ : ∃ o, ops[k]? = some o := ⟨_, List.getElem?_eq_getElem (by have := HLM.out; omega)⟩
      obtain ⟨b, off, rfl, -, s1, s2, s3, hq1, hq2, ha, hx⟩ := Sl_op_at HO.out ho
      have s1 := he.out.cell s1
      have s2 := he.out.cell s2
      have s3 := he.out.cell s3
      have HOK := hid ho; clear ho
      have hk0 : (0 : Int) ≤ (k : Int) := by omega
      have hk1 : (k : Int) < (m : Int) := by omega
      go_wp2_with fail
      refine wp_region_held_drew (S := (fun w' => w'.cell? ⟨b, off + k * 4 + 1, none⟩ = some (.int .i64 o.width) ∧ w'.cell? ⟨b, off + k * 4 + 2, none⟩ = some (.int .u32 o.addr) ∧ w'.cell? ⟨b, off + k * 4 + 3, none⟩ = some (.int .u32 o.num))) (by kernel_rfl) ⟨s1, s2, s3⟩ (fun hSR0 => ?_)
      refine wpAnyH_takeL (i := 0) (v := ?Rv0) rfl (by kernel_rfl) (by kernel_rfl) (by kernel_rfl) (fun _ _ _ h => h) (Or.inl ⟨by rfl, ?Ry0⟩) (by assumption) ?Rr0
      case Ry0 => first | (intro w hSw; (try dsimp only at hSw); go_simp; done) | (intro w hSw; (try dsimp only at hSw); go_simp; with_reducible rfl)
      case' Rr0 => try simp only [Act.put, List.setIfInBounds_toArray, List.set_cons_zero, List.set_cons_succ]
      refine wpAnyH_takeL (i := 1) (v := ?Rv1) rfl (by kernel_rfl) (by kernel_rfl) (by kernel_rfl) (fun _ _ _ h => h) (Or.inl ⟨by rfl, ?Ry1⟩) (by assumption) ?Rr1
      case Ry1 => first | (intro w hSw; (try dsimp only at hSw); go_simp; done) | (intro w hSw; (try dsimp only at hSw); go_simp; with_reducible rfl)
      case' Rr1 => try simp only [Act.put, List.setIfInBounds_toArray, List.set_cons_zero, List.set_cons_succ]
      refine wpAnyH_takeL (i := 2) (v := ?Rv2) rfl (by kernel_rfl) (by kernel_rfl) (by kernel_rfl) (fun _ _ _ h => h) (Or.inl ⟨by rfl, ?Ry2⟩) (by assumption) ?Rr2
      case Ry2 => first | (intro w hSw; (try dsimp only at hSw); go_simp; done) | (intro w hSw; (try dsimp only at hSw); go_simp; with_reducible rfl)
      case' Rr2 => try simp only [Act.put, List.setIfInBounds_toArray, List.set_cons_zero, List.set_cons_succ]
      refine wpAnyH_takeL (i := 3) (v := ?Rv3) rfl (by kernel_rfl) (by kernel_rfl) (by kernel_rfl) (fun _ _ _ h => h) (Or.inl ⟨by rfl, ?Ry3⟩) (by assumption) ?Rr3
      case Ry3 => first | (intro w hSw; (try dsimp only at hSw); go_simp; done) | (intro w hSw; (try dsimp only at hSw); go_simp; with_reducible rfl)
      case' Rr3 => try simp only [Act.put, List.setIfInBounds_toArray, List.set_cons_zero, List.set_cons_succ]
      refine wpAnyH_takeL (i := 4) (v := ?Rv4) rfl (by kernel_rfl) (by kernel_rfl) (by kernel_rfl) (fun _ _ _ h => h) (Or.inl ⟨by rfl, ?Ry4⟩) (by assumption) ?Rr4
      case Ry4 => first | (intro w hSw; (try dsimp only at hSw); go_simp; done) | (intro w hSw; (try dsimp only at hSw); go_simp; with_reducible rfl)
      case' Rr4 => try simp only [Act.put, List.setIfInBounds_toArray, List.set_cons_zero, List.set_cons_succ]
      refine wpAnyH_takeL (i := 5) (v := ?Rv5) rfl (by kernel_rfl) (by kernel_rfl) (by kernel_rfl) (fun _ _ _ h => h) (Or.inl ⟨by rfl, ?Ry5⟩) (by assumption) ?Rr5
      case Ry5 => first | (intro w hSw; (try dsimp only at hSw); go_simp; done) | (intro w hSw; (try dsimp only at hSw); go_simp; with_reducible rfl)
      case' Rr5 => try simp only [Act.put, List.setIfInBounds_toArray, List.set_cons_zero, List.set_cons_succ]
      refine wpAnyH_takeL (i := 6) (v := ?Rv6) rfl (by kernel_rfl) (by kernel_rfl) (by kernel_rfl) (fun _ _ _ h => h) (Or.inl ⟨by rfl, ?Ry6⟩) (by assumption) ?Rr6
      case Ry6 => first | (intro w hSw; (try dsimp only at hSw); go_simp; done) | (intro w hSw; (try dsimp only at hSw); go_simp; with_reducible rfl)
      case' Rr6 => try simp only [Act.put, List.setIfInBounds_toArray, List.set_cons_zero, List.set_cons_succ]
      refine wpAnyH_takeL (i := 7) (v := ?Rv7) rfl (by kernel_rfl) (by kernel_rfl) (by kernel_rfl) (fun _ _ _ h => h) (Or.inl ⟨by rfl, ?Ry7⟩) (by assumption) ?Rr7
      case Ry7 => first | (intro w hSw; (try dsimp only at hSw); go_simp; done) | (intro w hSw; (try dsimp only at hSw); go_simp; with_reducible rfl)
      case' Rr7 => try simp only [Act.put, List.setIfInBounds_toArray, List.set_cons_zero, List.set_cons_succ]
      refine wpAnyH_takeL (i := 8) (v := ?Rv8) rfl (by kernel_rfl) (by kernel_rfl) (by kernel_rfl) (fun _ _ _ h => h) (Or.inl ⟨by rfl, ?Ry8⟩) (by assumption) ?Rr8
      case Ry8 => first | (intro w hSw; (try dsimp only at hSw); go_simp; done) | (intro w hSw; (try dsimp only at hSw); go_simp; with_reducible rfl)
      case' Rr8 => try simp only [Act.put, List.setIfInBounds_toArray, List.set_cons_zero, List.set_cons_succ]
      refine wpAnyH_takeL (i := 9) (v := ?Rv9) rfl (by kernel_rfl) (by kernel_rfl) (by kernel_rfl) (fun _ _ _ h => h) (Or.inl ⟨by rfl, ?Ry9⟩) (by assumption) ?Rr9
      case Ry9 => first | (intro w hSw; (try dsimp only at hSw); go_simp; done) | (intro w hSw; (try dsimp only at hSw); go_simp; with_reducible rfl)
      case' Rr9 => try simp only [Act.put, List.setIfInBounds_toArray, List.set_cons_zero, List.set_cons_succ]
      refine wpAnyH_takeL (i := 10) (v := ?Rv10) rfl (by kernel_rfl) (by kernel_rfl) (by kernel_rfl) (fun _ _ _ h => h) (Or.inl ⟨by rfl, ?Ry10⟩) (by assumption) ?Rr10
      case Ry10 => first | (intro w hSw; (try dsimp only at hSw); go_simp; done) | (intro w hSw; (try dsimp only at hSw); go_simp; with_reducible rfl)
      case' Rr10 => try simp only [Act.put, List.setIfInBounds_toArray, List.set_cons_zero, List.set_cons_succ]
      refine wpAnyH_takeL (i := 11) (v := ?Rv11) rfl (by kernel_rfl) (by kernel_rfl) (by kernel_rfl) (fun _ _ _ h => h) (Or.inl ⟨by rfl, ?Ry11⟩) (by assumption) ?Rr11
      case Ry11 => first | (intro w hSw; (try dsimp only at hSw); go_simp; done) | (intro w hSw; (try dsimp only at hSw); go_simp; with_reducible rfl)
      case' Rr11 => try simp only [Act.put, List.setIfInBounds_toArray, List.set_cons_zero, List.set_cons_succ]
      refine wpAnyH_takeL (i := 12) (v := ?Rv12) rfl (by kernel_rfl) (by kernel_rfl) (by kernel_rfl) (fun _ _ _ h => h) (Or.inl ⟨by rfl, ?Ry12⟩) (by assumption) ?Rr12
      case Ry12 => first | (intro w hSw; (try dsimp only at hSw); go_simp; done) | (intro w hSw; (try dsimp only at hSw); go_simp; with_reducible rfl)
      case' Rr12 => try simp only [Act.put, List.setIfInBounds_toArray, List.set_cons_zero, List.set_cons_succ]
      refine wpAnyH_takeL (i := 13) (v := ?Rv13) rfl (by kernel_rfl) (by kernel_rfl) (by kernel_rfl) (fun _ _ _ h => h) (Or.inl ⟨by rfl, ?Ry13⟩) (by assumption) ?Rr13
      case Ry13 => first | (intro w hSw; (try dsimp only at hSw); go_simp; done) | (intro w hSw; (try dsimp only at hSw); go_simp; with_reducible rfl)
      case' Rr13 => try simp only [Act.put, List.setIfInBounds_toArray, List.set_cons_zero, List.set_cons_succ]
      refine wpAnyH_takeL (i := 14) (v := ?Rv14) rfl (by kernel_rfl) (by kernel_rfl) (by kernel_rfl) (fun _ _ _ h => h) (Or.inl ⟨by rfl, ?Ry14⟩) (by assumption) ?Rr14
      case Ry14 => first | (intro w hSw; (try dsimp only at hSw); go_simp; done) | (intro w hSw; (try dsimp only at hSw); go_simp; with_reducible rfl)
      case' Rr14 => try simp only [Act.put, List.setIfInBounds_toArray, List.set_cons_zero, List.set_cons_succ]
      refine wpAnyH_takeL (i := 15) (v := ?Rv15) rfl (by kernel_rfl) (by kernel_rfl) (by kernel_rfl) (fun _ _ _ h => h) (Or.inl ⟨by rfl, ?Ry15⟩) (by assumption) ?Rr15
      case Ry15 => first | (intro w hSw; (try dsimp only at hSw); go_simp; done) | (intro w hSw; (try dsimp only at hSw); go_simp; with_reducible rfl)
      case' Rr15 => try simp only [Act.put, List.setIfInBounds_toArray, List.set_cons_zero, List.set_cons_succ]
      refine wpAnyH_ready (rs := [16]) (by kernel_rfl) (by simp) ?_
      refine AllReadyH.consL rfl (fun K hK => ?_) AllReadyH.nil
      go_simp
      go_at_call 14
      refine (store_any _ mb bm (4 * k) _ _ (hmk.out.ext ((Ext.refl _).drew)) (by omega) o.addr ha o.width hq1 hq2 o.num).mono ?_
      rintro e w4 ⟨rfl, hm4, hg4⟩
      have he4 : Ext w w4 := he.out.drew.grown hg4 (fun j hj => by cases hj; exact hbm)
      have hf4 := MemAt.far (hfk.out.ext ((Ext.refl _).drew)) (hmk.out.ext ((Ext.refl _).drew)) hfne hg4
      have HE4 := hid he4
      have HF4 := hid hf4
      rw [← storeAll_snoc, ← take_snoc' HOK.out] at hm4
      have HM4 := hid hm4
      obtain ⟨b', off', hA, -, q1, q2, q3, -⟩ := Sl_op_at (HO.out.ext he4) HOK.out
      cases hA
      clear hm4 hf4 he4 hg4
      refine hK.out _ _ ⟨q1, q2, q3⟩ (fun hSR1 => ?_)
      clear hK K
      try simp only [Act.put, List.setIfInBounds_toArray, List.set_cons_zero, List.set_cons_succ]
      refine wpAnyH_done (by kernel_rfl) ?_ _
      go_wp2
      go_roundw
      case rel => exact ⟨k + 1, by omega, by go_num, HE4, HM4, HF4⟩
      case measure => simp [intOf]; omega
    · obtain rfl : m = k := by omega
      have e1 : ops.take m = ops := List.take_of_length_le (by have := HLM.out; omega)
      rw [e1] at hmk
      clear e1
      obtain ⟨w5, hw5⟩ : ∃ w5 : World, w5 = wr := ⟨_, rfl⟩
      subst hw5
      obtain ⟨M, hM⟩ : ∃ M, storeAll (regsOf l) (fun _ => none) ops = M := ⟨_, rfl⟩
      rw [hM] at hmk
      have HMM := hid hM; clear hM
      go_wp2
      go_loopw [9, 11] (fun v i wr => ∃ (k : Nat) (cA : Option Addr) (cc : Nat) (L : List Nat), k ≤ m ∧ i = .int .i64 k ∧ v = .slice cA L.length cc ∧ Hid (Sl u32R wr All (.slice cA L.length cc) L) ∧ Hid (Ext w5 wr) ∧ Hid (Want (regsOf l) M ops k 0 L)) (fun _ i _ => m - (intOf i).toNat)
      case atStart => exact ⟨0, none, 0, [], by omega, rfl, rfl, hid Sl.nil, hid (Ext.refl _), hid (Want.start _ _ _)⟩
      case round =>
        obtain ⟨k, cA, cc, L, hk, rfl, rfl, hs, hx, hwt⟩ := hrel
        by_cases h1 : k < m
        · obtain ⟨o, ho⟩ : ∃ o, ops[k]? = some o := ⟨_, List.getElem?_eq_getElem (by have := HLM.out; omega)⟩
          have HOK := hid ho; clear ho
          go_wp2
          obtain ⟨wo, hwo⟩ : ∃ wo : World, wo = wr := ⟨_, rfl⟩
          subst hwo
          go_loopw [9, 12] (fun v j wr => ∃ (q : Nat) (cA : Option Addr) (cc : Nat) (L : List Nat), q ≤ 4 ∧ j = .int .i64 q ∧ v = .slice cA L.length cc ∧ Hid (Sl u32R wr All (.slice cA L.length cc) L) ∧ Hid (Ext wo wr) ∧ Hid (Want (regsOf l) M ops k q L)) (fun _ j _ => 4 - (intOf j).toNat)
          case atStart => exact ⟨0, cA, cc, L, by omega, rfl, rfl, hs, hid (Ext.refl _), hwt⟩
          case round =>
            clear hs hwt
            obtain ⟨q, cA, cc, L, hq, rfl, rfl, hs, hxq, hwt⟩ := hrel
            by_cases h2 : q < 4
            · have hX := hid (hx.out.trans hxq.out)
              obtain ⟨b, off, rfl, -, -, s2, -, -, -, ha, -⟩ := Sl_op_at HO.out HOK.out
              have s2 := (he.out.trans hX.out).cell s2
              obtain ⟨a, hae⟩ : ∃ a, (o.addr + q) % 4294967296 = a := ⟨_, rfl⟩
              have hai : ((o.addr : Int) + (q : Int)) % 4294967296 = (a : Int) := by omega
              have hal : a < 4294967296 := by omega
              have HAE := hid hae; clear hae
              obtain ⟨x, hx1⟩ : ∃ x, (loadOf (regsOf l) M a 1).1 = x := ⟨_, rfl⟩
              obtain ⟨y, hy1⟩ : ∃ y, (loadOf (regsOf l) (fun _ => none) a 1).1 = y := ⟨_, rfl⟩
              have hdf := differ_iff (regsOf l) M a
              rw [hx1, hy1] at hdf
              have HX1 := hid hx1; clear hx1
              have HY1 := hid hy1; clear hy1
              have HDF := hid hdf; clear hdf
              go_wp2_with fail
              refine (load_any _ mb bm (4 * m) _ _ (hmk.out.ext hX.out) a hal 1 (by omega) (by omega)).mono ?_
              rintro e w6 ⟨rfl, hx6⟩
              rw [HX1.out]
              have HX6 := hid hx6; clear hx6
              go_wp2_with fail
              refine (load_any _ fb fm 0 _ _ (hfk.out.ext (hX.out.trans HX6.out)) a hal 1 (by omega) (by omega)).mono ?_
              rintro e w7 ⟨rfl, hx7⟩
              rw [HY1.out]
              have HX7 := hid (HX6.out.trans hx7); clear hx7
              by_cases hxy : x = y
              · have hne : ((x : Int) != (y : Int)) = false := by simp; omega
                go_wp2
                go_roundw
                case rel => exact ⟨q + 1, cA, cc, L, by omega, by go_num, rfl, hid (hs.out.ext HX7.out), hid (hxq.out.trans HX7.out), hid (hwt.out.skip HOK.out a HAE.out.symm (by
                  cases hb : changedAt (regsOf l) M a with
                  | false => rfl
                  | true => exact absurd hxy (HDF.out.1 hb)))⟩
                case measure => simp [intOf]; omega
              · have hne : ((x : Int) != (y : Int)) = true := by simp; omega
                go_wp2_with fail
                refine (insert_any _ w7 HX7.out cA L.length cc L hs.out (by have := hwt.out.small; omega) a hal).mono ?_
                rintro e w8 ⟨hx8, cA8, cc8, rfl, hs8⟩
                have HX8 := hid (HX7.out.trans hx8); clear hx8
                have HS8 := hid hs8; clear hs8
                go_wp2
                go_roundw
                case rel => exact ⟨q + 1, cA8, cc8, _, by omega, by go_num, rfl, HS8, hid (hxq.out.trans HX8.out), hid (hwt.out.put HOK.out a HAE.out.symm (HDF.out.2 hxy))⟩
                case measure => simp [intOf]; omega
            · obtain rfl : q = 4 := by omega
              go_wp2
              go_roundw
              case rel => exact ⟨k + 1, cA, cc, L, by omega, by go_num, rfl, hs, hid (hx.out.trans hxq.out), hid hwt.out.next⟩
              case measure => simp [intOf]; omega
        · obtain rfl : k = m := by omega
          have hX := hid (he.out.trans hx.out)
          go_wp2_with fail
          refine (changes_any _ mb bm (4 * k) _ _ (hmk.out.ext hx.out)).mono ?_
          rintro e w6 ⟨hx6, v, C, rfl, hsl, hpw, hmem⟩
          have HX6 := hid hx6
          have hCL : C = L := by
            have hw := hwt.out
            rw [← HMM.out] at hw hmem
            rw [HLM.out] at hw
            exact Want.done HSC.out hw hpw hmem
          subst hCL
          obtain ⟨dA, dc, rfl, hc1, hc2⟩ := hsl.form
          have HSL := hid hsl
          clear hx6 hsl hpw hmem
          go_wp2_with fail
          refine (words_any w6 w6 (Ext.refl _) dA cA C.length C.length dc cc C C HSL.out (hs.out.ext HX6.out)).mono ?_
          rintro e w7 ⟨rfl, hx7⟩
          have HX7 := hid (HX6.out.trans hx7); clear hx7
          have hd : decide (C = C) = true := by simp
          rw [hd]
          clear hd
          go_wp2_with fail
          refine (changes_any _ fb fm 0 _ _ (hfk.out.ext (hx.out.trans HX7.out))).mono ?_
          rintro e w8 ⟨hx8, v, C2, rfl, hsl, hpw, hmem⟩
          have hLe : C2 = [] := by
            cases C2 with
            | nil => rfl
            | cons x r =>
              have := (hmem x).1 (by simp)
              rw [changed_none] at this
              cases this
          subst hLe
          obtain ⟨eA, ec, rfl, hc3, hc4⟩ := hsl.form
          have HX8 := hid (hX.out.trans (HX7.out.trans hx8))
          clear hx8 hsl hpw hmem
          go_wp2_with fail
          refine (example_any _).mono ?_
          rintro e wz ⟨rfl, hx⟩
          have HX := hid (HE.out.trans (HX8.out.trans hx)); clear hx
          go_wp2
          go_ret
          exact ⟨rfl, HX.out⟩
end Go.Proofs.Ytjfdbfbdkjfgpaa
