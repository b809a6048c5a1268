/- MemoryLocal: the walk of the statement. -/
import Derived.Test.YtjfdbfbdkjfgpaaLawC
import Derived.Test.YtjfdbfbdkjfgpaaMemP
import Derived.Test.YtjfdbfbdkjfgpaaReg
import Derived.Deep.DrawnRows
import Derived.Outline
import Derived.Deep.DeepCutAuto
namespace Go.Proofs.Ytjfdbfbdkjfgpaa
open Go.RowKit Go.Deco
set_option linter.unusedSimpArgs false
attribute [local go_sem ↓] Go.wp_at_zero Go.wp_at_succ

set_option maxRecDepth 100000 in
set_option maxHeartbeats 8000000 in
theorem local_any (w : World) (A : Option Addr) (n c : Nat) (l : List Sec) (hl : Sl secR w All (.slice A n c) l) (sk sw ok_ ow : Int) (sa sx oa ox : Nat)
    (hsw1 : -9223372036854775808 ≤ sw) (hsw2 : sw ≤ 9223372036854775807) (how1 : -9223372036854775808 ≤ ow) (how2 : ow ≤ 9223372036854775807) (hsa : sa < 4294967296) (hsx : sx < 4294967296) (hoa : oa < 4294967296) :
    Calls Try.prog 3 #[.slice A n c, .agg #[.int .i64 sk, .int .i64 sw, .int .u32 sa, .int .u32 sx], .agg #[.int .i64 ok_, .int .i64 ow, .int .u32 oa, .int .u32 ox]] w (OneBool w true) := by
  have HL := hid hl; clear hl
  go_enter Try.func3, Try.ntmps3
  go_wp2_with fail
  obtain ⟨w0, hw0⟩ : ∃ w0, ((w.alloc (Obj.cells #[.int .i64 sk, .int .i64 sw, .int .u32 sa, .int .u32 sx] 25)).alloc (Obj.cells #[.int .i64 ok_, .int .i64 ow, .int .u32 oa, .int .u32 ox] 25)) = w0 := ⟨_, rfl⟩
  have hE : Ext w w0 := by rw [← hw0]; exact ((Ext.refl w).alloc _).alloc _
  have s1 : w0.cell? ⟨w.heap.size, 1, none⟩ = some (.int .i64 sw) := by rw [← hw0]; exact ((Ext.refl _).alloc _).cell (new_cells w [.int .i64 sk, .int .i64 sw, .int .u32 sa, .int .u32 sx] _ 1 _ rfl)
  have s2 : w0.cell? ⟨w.heap.size, 2, none⟩ = some (.int .u32 sa) := by rw [← hw0]; exact ((Ext.refl _).alloc _).cell (new_cells w [.int .i64 sk, .int .i64 sw, .int .u32 sa, .int .u32 sx] _ 2 _ rfl)
  have s3 : w0.cell? ⟨w.heap.size, 3, none⟩ = some (.int .u32 sx) := by rw [← hw0]; exact ((Ext.refl _).alloc _).cell (new_cells w [.int .i64 sk, .int .i64 sw, .int .u32 sa, .int .u32 sx] _ 3 _ rfl)
  have z1 : (w.alloc (Obj.cells #[.int .i64 sk, .int .i64 sw, .int .u32 sa, .int .u32 sx] 25)).heap.size = w.heap.size + 1 := by simp
  have o1 : w0.cell? ⟨w.heap.size + 1, 1, none⟩ = some (.int .i64 ow) := by rw [← hw0, ← z1]; exact new_cells _ [.int .i64 ok_, .int .i64 ow, .int .u32 oa, .int .u32 ox] _ 1 _ rfl
  have o2 : w0.cell? ⟨w.heap.size + 1, 2, none⟩ = some (.int .u32 oa) := by rw [← hw0, ← z1]; exact new_cells _ [.int .i64 ok_, .int .i64 ow, .int .u32 oa, .int .u32 ox] _ 2 _ rfl
  rw [hw0]
  have HS := hid (And.intro s1 (And.intro s2 (And.intro s3 (And.intro o1 o2))))
  have HE := hid hE
  clear hw0 hE s1 s2 s3 o1 o2 z1
  refine (few_any w0 A n c l (HL.out.ext HE.out)).mono ?_
  rintro e w' ⟨⟨b, rfl⟩, rfl⟩
  cases b with
  | false => as_aux_lemma =>
    go_wp2_with fail
    refine (example_any _).mono ?_
    rintro e w1 ⟨rfl, hx⟩
    have HX := hid (HE.out.trans hx); clear hx
    go_wp2
    go_ret
    exact ⟨rfl, HX.out⟩
  | true =>
    go_wp2_with fail
    refine (new_any w0 A n c l (HL.out.ext HE.out)).mono ?_
    rintro e w1 ⟨hx1, ⟨h0, rfl⟩ | ⟨h0, mb, bm, rfl, hmb, hbm, hm⟩⟩
    · have H1 := hid (HE.out.trans hx1); clear hx1
      have h0' : ((secCheck l : Int) != 0) = true := by simpa using h0
      obtain ⟨er, her⟩ : ∃ er, secCheck l = er := ⟨_, rfl⟩
      rw [her] at h0'
      rw [her]
      clear h0 her
      go_wp2_with fail
      refine (example_any _).mono ?_
      rintro e w2 ⟨rfl, hx⟩
      have HX := hid (H1.out.trans hx); clear hx
      go_wp2
      go_ret
      exact ⟨rfl, HX.out⟩
    · have H1 := hid hx1; clear hx1
      have HM := hid hm; clear hm
      have HSC := hid h0; clear h0
      obtain ⟨a, ha⟩ : ∃ a, loadOf (regsOf l) (fun _ => none) oa ow = a := ⟨_, rfl⟩
      have HA := hid ha; clear ha
      obtain ⟨t1, t2, t3, t4, t5⟩ := HS.out
      have s1 := H1.out.cell t1
      have s2 := H1.out.cell t2
      have s3 := H1.out.cell t3
      have o1 := H1.out.cell t4
      have o2 := H1.out.cell t5
      clear t1 t2 t3 t4 t5
      go_wp2_with fail
      refine (load_any w1 mb bm 0 _ _ HM.out oa hoa ow how1 how2).mono ?_
      rintro e w2 ⟨rfl, hx2⟩
      have H2 := hid (H1.out.trans hx2)
      have HM2 := hid (HM.out.ext hx2)
      clear hx2 s1 s2 s3 o1 o2
      rw [HA.out]
      obtain ⟨t1, t2, t3, t4, t5⟩ := HS.out
      have s1 := H2.out.cell t1
      have s2 := H2.out.cell t2
      have s3 := H2.out.cell t3
      have o1 := H2.out.cell t4
      have o2 := H2.out.cell t5
      clear t1 t2 t3 t4 t5
      go_wp2_with fail
      refine (store_any w2 mb bm 0 _ _ HM2.out (by omega) sa hsa sw hsw1 hsw2 sx).mono ?_
      rintro e w3 ⟨rfl, hm3, hg3⟩
      have H3 := hid (H2.out.grown hg3 (fun j hj => by cases hj; exact hbm))
      have HM3 := hid hm3
      clear hg3 hm3 s1 s2 s3 o1 o2
      obtain ⟨g, hg⟩ : ∃ g, storeErr (regsOf l) sa sw = g := ⟨_, rfl⟩
      rw [hg]
      have HG := hid hg; clear hg
      obtain ⟨t1, t2, t3, t4, t5⟩ := HS.out
      have s1 := H3.out.cell t1
      have s2 := H3.out.cell t2
      have s3 := H3.out.cell t3
      have o1 := H3.out.cell t4
      have o2 := H3.out.cell t5
      clear t1 t2 t3 t4 t5
      go_wp2_with fail
      refine (load_any w3 mb bm 4 _ _ HM3.out oa hoa ow how1 how2).mono ?_
      rintro e w4 ⟨rfl, hx4⟩
      have H4 := hid (H3.out.trans hx4)
      have HM4 := hid (HM3.out.ext hx4)
      clear hx4 s1 s2 s3 o1 o2
      have hba := load_err (regsOf l) (storeMap (regsOf l) (fun _ => none) sa sw sx) (fun _ => none) oa ow
      obtain ⟨b, hb⟩ : ∃ b, loadOf (regsOf l) (storeMap (regsOf l) (fun _ => none) sa sw sx) oa ow = b := ⟨_, rfl⟩
      rw [hb, HA.out] at hba
      rw [hb]
      have HB := hid hb; clear hb
      obtain ⟨a1, a2⟩ := a
      obtain ⟨b1, b2⟩ := b
      simp only at hba
      subst hba
      have hff : ((b2 : Int) != (b2 : Int)) = false := by simp
      by_cases hg0 : g = 0
      · subst hg0
        obtain ⟨_, hw, -, -⟩ := store_ok HG.out
        have HST := hid (load_stored (M := fun _ => none) (x := sx) HG.out)
        obtain ⟨t1, t2, t3, t4, t5⟩ := HS.out
        have s1 := H4.out.cell t1
        have s2 := H4.out.cell t2
        have s3 := H4.out.cell t3
        have o1 := H4.out.cell t4
        have o2 := H4.out.cell t5
        clear t1 t2 t3 t4 t5
        go_wp2_with fail
        refine (load_any w4 mb bm 4 _ _ HM4.out sa hsa sw hsw1 hsw2).mono ?_
        rintro e w5 ⟨rfl, hx5⟩
        have H5 := hid (H4.out.trans hx5)
        have HM5 := hid (HM4.out.ext hx5)
        obtain ⟨X, hX⟩ : ∃ X, sx % 256 ^ sw.toNat = X := ⟨_, rfl⟩
        rw [HST.out, hX]
        have HXX := hid hX; clear hX
        clear hx5 s1 s2 s3 o1 o2
        obtain ⟨t1, t2, t3, t4, t5⟩ := HS.out
        have s1 := H5.out.cell t1
        have s2 := H5.out.cell t2
        have s3 := H5.out.cell t3
        have o1 := H5.out.cell t4
        have o2 := H5.out.cell t5
        clear t1 t2 t3 t4 t5
        have HW := hid hw; clear hw
        go_upto_if 102 with (fail)
        go_cut [16] (fun v wx => ∃ y : Nat, v = .int .u32 y ∧ y < 4294967296 ∧ (sw = 1 → y = X) ∧ (sw ≠ 1 → y = sx) ∧ wx = w5)
        case first => as_aux_lemma =>
          by_cases hw1 : sw = 1
          · subst hw1
            go_wp2_with fail
            go_meet
            exact ⟨sx % 256, by rw [show ((sx % 256 : Nat) : Int) = (sx : Int) % 256 by omega], by omega, (fun _ => HXX.out), (fun h => absurd rfl h), rfl⟩
          · have hw2 : (sw == 1) = false := by simpa using hw1
            go_wp2_with fail
            go_meet
            exact ⟨sx, rfl, hsx, (fun h => absurd h hw1), (fun _ => rfl), rfl⟩
        case rest => as_aux_lemma =>
        obtain ⟨y, rfl, hy, hy1, hy2, rfl⟩ := hcut
        have HY1 := hid hy1
        have HY2 := hid hy2
        clear hy1 hy2
        go_upto_if 107 with (fail)
        go_cut [16] (fun v wx' => v = .int .u32 X ∧ wx' = wc)
        case first => as_aux_lemma =>
          by_cases hw1 : sw = 2
          · subst hw1
            have e : y = sx := HY2.out (by omega)
            have e2 : ((sx : Int) % 65536) = (X : Int) := by have := HXX.out; simp at this; omega
            subst e
            go_wp2_with fail
            go_meet
            exact ⟨rfl, rfl⟩
          · have hw2 : (sw == 2) = false := by simpa using hw1
            go_wp2_with fail
            go_meet
            refine ⟨?_, rfl⟩
            rcases HW.out with h | h | h
            · rw [HY1.out h]
            · exact absurd h hw1
            · have e := HY2.out (by omega)
              have e2 := HXX.out
              subst h
              simp at e2
              rw [show y = X by omega]
        case rest => as_aux_lemma =>
        obtain ⟨rfl, rfl⟩ := hcut
        go_upto_region 19 with (fail)
        go_cut [17] (fun v wx => ∃ p : Bool, v = .bool p ∧ (p = true → a1 = b1) ∧ wx = wc)
        case first => as_aux_lemma =>
          by_cases hb0 : b2 = 0
          · subst hb0
            obtain ⟨_, hw', -⟩ := load_ok (show (loadOf (regsOf l) (fun _ => none) oa ow).2 = 0 by rw [HA.out])
            rcases HW.out with rfl | rfl | rfl
            all_goals
              rcases hw' with rfl | rfl | rfl
              all_goals
                go_wp2_with fail
                all_goals
                  go_meet
                  first
                    | exact ⟨_, rfl, (fun h => apart_eq HSC.out HG.out HA.out HB.out (by assumption) (by simpa using h)), rfl⟩
                    | exact ⟨false, rfl, (fun h => by cases h), rfl⟩
          · have hb1 : ((b2 : Int) == 0) = false := by simpa using hb0
            go_wp2_with fail
            go_meet
            exact ⟨false, rfl, (fun h => by cases h), rfl⟩
        case rest => as_aux_lemma =>
        obtain ⟨p, rfl, hp, rfl⟩ := hcut
        have s1 := HS.out.1
        have s1 := H5.out.cell s1
        have hab : p = false ∨ a1 = b1 := by cases p <;> simp_all
        have hmm : ∀ j, changedAt (regsOf l) (storeMap (regsOf l) (fun _ => none) sa sw sx) j = true → sa ≤ j ∧ j < sa + sw.toNat := fun j h => changed_store h
        have hsw0 : 0 ≤ sw := by rcases HW.out with h | h | h <;> omega
        have HMM := hid hmm
        clear hmm hp
        cases p
        case' true =>
          obtain rfl : a1 = b1 := by simpa using hab
        all_goals
          clear hab
          go_wp2_with fail
        case' true =>
          refine wp_region_held_drew (S := (fun w' => w'.cell? ⟨w.heap.size, 1, none⟩ = some (.int .i64 sw))) (by kernel_rfl) s1 (fun hSP0 => ?_)
          refine wpAnyH_takeL (i := 0) (v := ?Pv0) rfl (by kernel_rfl) (by kernel_rfl) (by kernel_rfl) (fun _ _ _ h => h) (Or.inl ⟨by rfl, ?Py0⟩) (by assumption) ?Pr0
          case Py0 => first | (intro w hSw; (try dsimp only at hSw); go_simp; done) | (intro w hSw; (try dsimp only at hSw); go_simp; with_reducible rfl)
          case' Pr0 => try simp only [Act.put, List.setIfInBounds_toArray, List.set_cons_zero, List.set_cons_succ]
          refine wpAnyH_takeL (i := 1) (v := ?Pv1) rfl (by kernel_rfl) (by kernel_rfl) (by kernel_rfl) (fun _ _ _ h => h) (Or.inl ⟨by rfl, ?Py1⟩) (by assumption) ?Pr1
          case Py1 => first | (intro w hSw; (try dsimp only at hSw); go_simp; done) | (intro w hSw; (try dsimp only at hSw); go_simp; with_reducible rfl)
          case' Pr1 => try simp only [Act.put, List.setIfInBounds_toArray, List.set_cons_zero, List.set_cons_succ]
          refine wpAnyH_takeL (i := 2) (v := ?Pv2) rfl (by kernel_rfl) (by kernel_rfl) (by kernel_rfl) (fun _ _ _ h => h) (Or.inl ⟨by rfl, ?Py2⟩) (by assumption) ?Pr2
          case Py2 => first | (intro w hSw; (try dsimp only at hSw); go_simp; done) | (intro w hSw; (try dsimp only at hSw); go_simp; with_reducible rfl)
          case' Pr2 => try simp only [Act.put, List.setIfInBounds_toArray, List.set_cons_zero, List.set_cons_succ]
          refine wpAnyH_takeL (i := 3) (v := ?Pv3) rfl (by kernel_rfl) (by kernel_rfl) (by kernel_rfl) (fun _ _ _ h => h) (Or.inl ⟨by rfl, ?Py3⟩) (by assumption) ?Pr3
          case Py3 => first | (intro w hSw; (try dsimp only at hSw); go_simp; done) | (intro w hSw; (try dsimp only at hSw); go_simp; with_reducible rfl)
          case' Pr3 => try simp only [Act.put, List.setIfInBounds_toArray, List.set_cons_zero, List.set_cons_succ]
          refine wpAnyH_takeL (i := 4) (v := ?Pv4) rfl (by kernel_rfl) (by kernel_rfl) (by kernel_rfl) (fun _ _ _ h => h) (Or.inl ⟨by rfl, ?Py4⟩) (by assumption) ?Pr4
          case Py4 => first | (intro w hSw; (try dsimp only at hSw); go_simp; done) | (intro w hSw; (try dsimp only at hSw); go_simp; with_reducible rfl)
          case' Pr4 => try simp only [Act.put, List.setIfInBounds_toArray, List.set_cons_zero, List.set_cons_succ]
          refine wpAnyH_takeL (i := 5) (v := ?Pv5) rfl (by kernel_rfl) (by kernel_rfl) (by kernel_rfl) (fun _ _ _ h => h) (Or.inl ⟨by rfl, ?Py5⟩) (by assumption) ?Pr5
          case Py5 => first | (intro w hSw; (try dsimp only at hSw); go_simp; done) | (intro w hSw; (try dsimp only at hSw); go_simp; with_reducible rfl)
          case' Pr5 => try simp only [Act.put, List.setIfInBounds_toArray, List.set_cons_zero, List.set_cons_succ]
          refine wpAnyH_takeL (i := 6) (v := ?Pv6) rfl (by kernel_rfl) (by kernel_rfl) (by kernel_rfl) (fun _ _ _ h => h) (Or.inl ⟨by rfl, ?Py6⟩) (by assumption) ?Pr6
          case Py6 => first | (intro w hSw; (try dsimp only at hSw); go_simp; done) | (intro w hSw; (try dsimp only at hSw); go_simp; with_reducible rfl)
          case' Pr6 => try simp only [Act.put, List.setIfInBounds_toArray, List.set_cons_zero, List.set_cons_succ]
          refine wpAnyH_takeL (i := 7) (v := ?Pv7) rfl (by kernel_rfl) (by kernel_rfl) (by kernel_rfl) (fun _ _ _ h => h) (Or.inl ⟨by rfl, ?Py7⟩) (by assumption) ?Pr7
          case Py7 => first | (intro w hSw; (try dsimp only at hSw); go_simp; done) | (intro w hSw; (try dsimp only at hSw); go_simp; with_reducible rfl)
          case' Pr7 => try simp only [Act.put, List.setIfInBounds_toArray, List.set_cons_zero, List.set_cons_succ]
          refine wpAnyH_takeL (i := 8) (v := ?Pv8) rfl (by kernel_rfl) (by kernel_rfl) (by kernel_rfl) (fun _ _ _ h => h) (Or.inl ⟨by rfl, ?Py8⟩) (by assumption) ?Pr8
          case Py8 => first | (intro w hSw; (try dsimp only at hSw); go_simp; done) | (intro w hSw; (try dsimp only at hSw); go_simp; with_reducible rfl)
          case' Pr8 => try simp only [Act.put, List.setIfInBounds_toArray, List.set_cons_zero, List.set_cons_succ]
          refine wpAnyH_takeL (i := 9) (v := ?Pv9) rfl (by kernel_rfl) (by kernel_rfl) (by kernel_rfl) (fun _ _ _ h => h) (Or.inl ⟨by rfl, ?Py9⟩) (by assumption) ?Pr9
          case Py9 => first | (intro w hSw; (try dsimp only at hSw); go_simp; done) | (intro w hSw; (try dsimp only at hSw); go_simp; with_reducible rfl)
          case' Pr9 => try simp only [Act.put, List.setIfInBounds_toArray, List.set_cons_zero, List.set_cons_succ]
          refine wpAnyH_takeL (i := 10) (v := ?Pv10) rfl (by kernel_rfl) (by kernel_rfl) (by kernel_rfl) (fun _ _ _ h => h) (Or.inl ⟨by rfl, ?Py10⟩) (by assumption) ?Pr10
          case Py10 => first | (intro w hSw; (try dsimp only at hSw); go_simp; done) | (intro w hSw; (try dsimp only at hSw); go_simp; with_reducible rfl)
          case' Pr10 => try simp only [Act.put, List.setIfInBounds_toArray, List.set_cons_zero, List.set_cons_succ]
          refine wpAnyH_takeL (i := 11) (v := ?Pv11) rfl (by kernel_rfl) (by kernel_rfl) (by kernel_rfl) (fun _ _ _ h => h) (Or.inl ⟨by rfl, ?Py11⟩) (by assumption) ?Pr11
          case Py11 => first | (intro w hSw; (try dsimp only at hSw); go_simp; done) | (intro w hSw; (try dsimp only at hSw); go_simp; with_reducible rfl)
          case' Pr11 => try simp only [Act.put, List.setIfInBounds_toArray, List.set_cons_zero, List.set_cons_succ]
          refine wpAnyH_takeL (i := 12) (v := ?Pv12) rfl (by kernel_rfl) (by kernel_rfl) (by kernel_rfl) (fun _ _ _ h => h) (Or.inl ⟨by rfl, ?Py12⟩) (by assumption) ?Pr12
          case Py12 => first | (intro w hSw; (try dsimp only at hSw); go_simp; done) | (intro w hSw; (try dsimp only at hSw); go_simp; with_reducible rfl)
          case' Pr12 => try simp only [Act.put, List.setIfInBounds_toArray, List.set_cons_zero, List.set_cons_succ]
          refine wpAnyH_takeL (i := 13) (v := ?Pv13) rfl (by kernel_rfl) (by kernel_rfl) (by kernel_rfl) (fun _ _ _ h => h) (Or.inl ⟨by rfl, ?Py13⟩) (by assumption) ?Pr13
          case Py13 => first | (intro w hSw; (try dsimp only at hSw); go_simp; done) | (intro w hSw; (try dsimp only at hSw); go_simp; with_reducible rfl)
          case' Pr13 => try simp only [Act.put, List.setIfInBounds_toArray, List.set_cons_zero, List.set_cons_succ]
          refine wpAnyH_takeL (i := 14) (v := ?Pv14) rfl (by kernel_rfl) (by kernel_rfl) (by kernel_rfl) (fun _ _ _ h => h) (Or.inl ⟨by rfl, ?Py14⟩) (by assumption) ?Pr14
          case Py14 => first | (intro w hSw; (try dsimp only at hSw); go_simp; done) | (intro w hSw; (try dsimp only at hSw); go_simp; with_reducible rfl)
          case' Pr14 => try simp only [Act.put, List.setIfInBounds_toArray, List.set_cons_zero, List.set_cons_succ]
          refine wpAnyH_takeL (i := 15) (v := ?Pv15) rfl (by kernel_rfl) (by kernel_rfl) (by kernel_rfl) (fun _ _ _ h => h) (Or.inl ⟨by rfl, ?Py15⟩) (by assumption) ?Pr15
          case Py15 => first | (intro w hSw; (try dsimp only at hSw); go_simp; done) | (intro w hSw; (try dsimp only at hSw); go_simp; with_reducible rfl)
          case' Pr15 => try simp only [Act.put, List.setIfInBounds_toArray, List.set_cons_zero, List.set_cons_succ]
          refine wpAnyH_takeL (i := 16) (v := ?Pv16) rfl (by kernel_rfl) (by kernel_rfl) (by kernel_rfl) (fun _ _ _ h => h) (Or.inl ⟨by rfl, ?Py16⟩) (by assumption) ?Pr16
          case Py16 => first | (intro w hSw; (try dsimp only at hSw); go_simp; done) | (intro w hSw; (try dsimp only at hSw); go_simp; with_reducible rfl)
          case' Pr16 => try simp only [Act.put, List.setIfInBounds_toArray, List.set_cons_zero, List.set_cons_succ]
          refine wpAnyH_takeL (i := 17) (v := ?Pv17) rfl (by kernel_rfl) (by kernel_rfl) (by kernel_rfl) (fun _ _ _ h => h) (Or.inl ⟨by rfl, ?Py17⟩) (by assumption) ?Pr17
          case Py17 => first | (intro w hSw; (try dsimp only at hSw); go_simp; done) | (intro w hSw; (try dsimp only at hSw); go_simp; with_reducible rfl)
          case' Pr17 => try simp only [Act.put, List.setIfInBounds_toArray, List.set_cons_zero, List.set_cons_succ]
          refine wpAnyH_takeL (i := 20) (v := ?Pv20) rfl (by kernel_rfl) (by kernel_rfl) (by kernel_rfl) (fun _ _ _ h => h) (Or.inl ⟨by rfl, ?Py20⟩) (by assumption) ?Pr20
          case Py20 => first | (intro w hSw; (try dsimp only at hSw); go_simp; done) | (intro w hSw; (try dsimp only at hSw); go_simp; with_reducible rfl)
          case' Pr20 => try simp only [Act.put, List.setIfInBounds_toArray, List.set_cons_zero, List.set_cons_succ]
          refine wpAnyH_takeL (i := 21) (v := ?Pv21) rfl (by kernel_rfl) (by kernel_rfl) (by kernel_rfl) (fun _ _ _ h => h) (Or.inl ⟨by rfl, ?Py21⟩) (by assumption) ?Pr21
          case Py21 => first | (intro w hSw; (try dsimp only at hSw); go_simp; done) | (intro w hSw; (try dsimp only at hSw); go_simp; with_reducible rfl)
          case' Pr21 => try simp only [Act.put, List.setIfInBounds_toArray, List.set_cons_zero, List.set_cons_succ]
          refine wpAnyH_ready (rs := [18]) (by kernel_rfl) (by simp) ?_
          refine AllReadyH.consL rfl (fun K hK => ?_) AllReadyH.nil
          go_simp
          go_at_call 15
          refine (changes_any _ mb bm 4 _ _ (HM5.out.ext ((Ext.refl _).drew))).mono ?_
          rintro e w6 ⟨hx6, v, L, rfl, hsl, hpw, hmem⟩
          obtain ⟨cA, cc, rfl, hc1, hc2⟩ := hsl.form
          have hle : (L.length : Int) ≤ sw := by have := asc_length L sa sw.toNat hpw (fun x hx => HMM.out x ((hmem x).1 hx)); omega
          clear hsl hpw hmem
          refine hK.out _ _ (hx6.cell s1) (fun hSP1 => ?_)
          clear hK K
          try simp only [Act.put, List.setIfInBounds_toArray, List.set_cons_zero, List.set_cons_succ]
          refine wpAnyH_takeL (i := 19) (v := ?Pv19) rfl (by kernel_rfl) (by kernel_rfl) (by kernel_rfl) (fun _ _ _ h => h) (Or.inl ⟨by rfl, ?Py19⟩) (by assumption) ?Pr19
          case Py19 => first | (intro w hSw; (try dsimp only at hSw); go_simp; done) | (intro w hSw; (try dsimp only at hSw); go_simp; with_reducible rfl)
          case' Pr19 => try simp only [Act.put, List.setIfInBounds_toArray, List.set_cons_zero, List.set_cons_succ]
          refine wpAnyH_takeL (i := 22) (v := ?Pv22) rfl (by kernel_rfl) (by kernel_rfl) (by kernel_rfl) (fun _ _ _ h => h) (Or.inl ⟨by rfl, ?Py22⟩) (by assumption) ?Pr22
          case Py22 => first | (intro w hSw; (try dsimp only at hSw); go_simp; done) | (intro w hSw; (try dsimp only at hSw); go_simp; with_reducible rfl)
          case' Pr22 => try simp only [Act.put, List.setIfInBounds_toArray, List.set_cons_zero, List.set_cons_succ]
          refine wpAnyH_takeL (i := 23) (v := ?Pv23) rfl (by kernel_rfl) (by kernel_rfl) (by kernel_rfl) (fun _ _ _ h => h) (Or.inl ⟨by rfl, ?Py23⟩) (by assumption) ?Pr23
          case Py23 => first | (intro w hSw; (try dsimp only at hSw); go_simp; done) | (intro w hSw; (try dsimp only at hSw); go_simp; with_reducible rfl)
          case' Pr23 => try simp only [Act.put, List.setIfInBounds_toArray, List.set_cons_zero, List.set_cons_succ]
          refine wpAnyH_takeL (i := 24) (v := ?Pv24) rfl (by kernel_rfl) (by kernel_rfl) (by kernel_rfl) (fun _ _ _ h => h) (Or.inl ⟨by rfl, ?Py24⟩) (by assumption) ?Pr24
          case Py24 => first | (intro w hSw; (try dsimp only at hSw); go_simp; done) | (intro w hSw; (try dsimp only at hSw); go_simp; with_reducible rfl)
          case' Pr24 => try simp only [Act.put, List.setIfInBounds_toArray, List.set_cons_zero, List.set_cons_succ]
          refine wpAnyH_ready (rs := [25]) (by kernel_rfl) (by simp) ?_
          refine AllReadyH.consL rfl (fun K hK => ?_) AllReadyH.nil
          go_simp
          go_at_call 11
          refine (example_any _).mono ?_
          rintro e w7 ⟨rfl, hx7⟩
          refine hK.out _ _ (hx7.cell (hx6.cell s1)) (fun hSP2 => ?_)
          clear hK K
          try simp only [Act.put, List.setIfInBounds_toArray, List.set_cons_zero, List.set_cons_succ]
          refine wpAnyH_takeL (i := 26) (v := ?Pv26) rfl (by kernel_rfl) (by kernel_rfl) (by kernel_rfl) (fun _ _ _ h => h) (Or.inl ⟨by rfl, ?Py26⟩) (by assumption) ?Pr26
          case Py26 => first | (intro w hSw; (try dsimp only at hSw); go_simp; done) | (intro w hSw; (try dsimp only at hSw); go_simp; with_reducible rfl)
          case' Pr26 => try simp only [Act.put, List.setIfInBounds_toArray, List.set_cons_zero, List.set_cons_succ]
          refine wpAnyH_takeL (i := 27) (v := ?Pv27) rfl (by kernel_rfl) (by kernel_rfl) (by kernel_rfl) (fun _ _ _ h => h) (Or.inl ⟨by rfl, ?Py27⟩) (by assumption) ?Pr27
          case Py27 => first | (intro w hSw; (try dsimp only at hSw); go_simp; done) | (intro w hSw; (try dsimp only at hSw); go_simp; with_reducible rfl)
          case' Pr27 => try simp only [Act.put, List.setIfInBounds_toArray, List.set_cons_zero, List.set_cons_succ]
          refine wpAnyH_done (by kernel_rfl) ?_ _
        case' false =>
          refine wp_region_held_drew (S := (fun w' => w'.cell? ⟨w.heap.size, 1, none⟩ = some (.int .i64 sw))) (by kernel_rfl) s1 (fun hSN0 => ?_)
          refine wpAnyH_takeL (i := 0) (v := ?Nv0) rfl (by kernel_rfl) (by kernel_rfl) (by kernel_rfl) (fun _ _ _ h => h) (Or.inl ⟨by rfl, ?Ny0⟩) (by assumption) ?Nr0
          case Ny0 => first | (intro w hSw; (try dsimp only at hSw); go_simp; done) | (intro w hSw; (try dsimp only at hSw); go_simp; with_reducible rfl)
          case' Nr0 => try simp only [Act.put, List.setIfInBounds_toArray, List.set_cons_zero, List.set_cons_succ]
          refine wpAnyH_takeL (i := 1) (v := ?Nv1) rfl (by kernel_rfl) (by kernel_rfl) (by kernel_rfl) (fun _ _ _ h => h) (Or.inl ⟨by rfl, ?Ny1⟩) (by assumption) ?Nr1
          case Ny1 => first | (intro w hSw; (try dsimp only at hSw); go_simp; done) | (intro w hSw; (try dsimp only at hSw); go_simp; with_reducible rfl)
          case' Nr1 => try simp only [Act.put, List.setIfInBounds_toArray, List.set_cons_zero, List.set_cons_succ]
          refine wpAnyH_takeL (i := 2) (v := ?Nv2) rfl (by kernel_rfl) (by kernel_rfl) (by kernel_rfl) (fun _ _ _ h => h) (Or.inl ⟨by rfl, ?Ny2⟩) (by assumption) ?Nr2
          case Ny2 => first | (intro w hSw; (try dsimp only at hSw); go_simp; done) | (intro w hSw; (try dsimp only at hSw); go_simp; with_reducible rfl)
          case' Nr2 => try simp only [Act.put, List.setIfInBounds_toArray, List.set_cons_zero, List.set_cons_succ]
          refine wpAnyH_takeL (i := 3) (v := ?Nv3) rfl (by kernel_rfl) (by kernel_rfl) (by kernel_rfl) (fun _ _ _ h => h) (Or.inl ⟨by rfl, ?Ny3⟩) (by assumption) ?Nr3
          case Ny3 => first | (intro w hSw; (try dsimp only at hSw); go_simp; done) | (intro w hSw; (try dsimp only at hSw); go_simp; with_reducible rfl)
          case' Nr3 => try simp only [Act.put, List.setIfInBounds_toArray, List.set_cons_zero, List.set_cons_succ]
          refine wpAnyH_takeL (i := 4) (v := ?Nv4) rfl (by kernel_rfl) (by kernel_rfl) (by kernel_rfl) (fun _ _ _ h => h) (Or.inl ⟨by rfl, ?Ny4⟩) (by assumption) ?Nr4
          case Ny4 => first | (intro w hSw; (try dsimp only at hSw); go_simp; done) | (intro w hSw; (try dsimp only at hSw); go_simp; with_reducible rfl)
          case' Nr4 => try simp only [Act.put, List.setIfInBounds_toArray, List.set_cons_zero, List.set_cons_succ]
          refine wpAnyH_takeL (i := 5) (v := ?Nv5) rfl (by kernel_rfl) (by kernel_rfl) (by kernel_rfl) (fun _ _ _ h => h) (Or.inl ⟨by rfl, ?Ny5⟩) (by assumption) ?Nr5
          case Ny5 => first | (intro w hSw; (try dsimp only at hSw); go_simp; done) | (intro w hSw; (try dsimp only at hSw); go_simp; with_reducible rfl)
          case' Nr5 => try simp only [Act.put, List.setIfInBounds_toArray, List.set_cons_zero, List.set_cons_succ]
          refine wpAnyH_takeL (i := 6) (v := ?Nv6) rfl (by kernel_rfl) (by kernel_rfl) (by kernel_rfl) (fun _ _ _ h => h) (Or.inl ⟨by rfl, ?Ny6⟩) (by assumption) ?Nr6
          case Ny6 => first | (intro w hSw; (try dsimp only at hSw); go_simp; done) | (intro w hSw; (try dsimp only at hSw); go_simp; with_reducible rfl)
          case' Nr6 => try simp only [Act.put, List.setIfInBounds_toArray, List.set_cons_zero, List.set_cons_succ]
          refine wpAnyH_takeL (i := 7) (v := ?Nv7) rfl (by kernel_rfl) (by kernel_rfl) (by kernel_rfl) (fun _ _ _ h => h) (Or.inl ⟨by rfl, ?Ny7⟩) (by assumption) ?Nr7
          case Ny7 => first | (intro w hSw; (try dsimp only at hSw); go_simp; done) | (intro w hSw; (try dsimp only at hSw); go_simp; with_reducible rfl)
          case' Nr7 => try simp only [Act.put, List.setIfInBounds_toArray, List.set_cons_zero, List.set_cons_succ]
          refine wpAnyH_takeL (i := 8) (v := ?Nv8) rfl (by kernel_rfl) (by kernel_rfl) (by kernel_rfl) (fun _ _ _ h => h) (Or.inl ⟨by rfl, ?Ny8⟩) (by assumption) ?Nr8
          case Ny8 => first | (intro w hSw; (try dsimp only at hSw); go_simp; done) | (intro w hSw; (try dsimp only at hSw); go_simp; with_reducible rfl)
          case' Nr8 => try simp only [Act.put, List.setIfInBounds_toArray, List.set_cons_zero, List.set_cons_succ]
          refine wpAnyH_takeL (i := 9) (v := ?Nv9) rfl (by kernel_rfl) (by kernel_rfl) (by kernel_rfl) (fun _ _ _ h => h) (Or.inl ⟨by rfl, ?Ny9⟩) (by assumption) ?Nr9
          case Ny9 => first | (intro w hSw; (try dsimp only at hSw); go_simp; done) | (intro w hSw; (try dsimp only at hSw); go_simp; with_reducible rfl)
          case' Nr9 => try simp only [Act.put, List.setIfInBounds_toArray, List.set_cons_zero, List.set_cons_succ]
          refine wpAnyH_takeL (i := 10) (v := ?Nv10) rfl (by kernel_rfl) (by kernel_rfl) (by kernel_rfl) (fun _ _ _ h => h) (Or.inl ⟨by rfl, ?Ny10⟩) (by assumption) ?Nr10
          case Ny10 => first | (intro w hSw; (try dsimp only at hSw); go_simp; done) | (intro w hSw; (try dsimp only at hSw); go_simp; with_reducible rfl)
          case' Nr10 => try simp only [Act.put, List.setIfInBounds_toArray, List.set_cons_zero, List.set_cons_succ]
          refine wpAnyH_takeL (i := 11) (v := undef) rfl (by kernel_rfl) (by kernel_rfl) (by kernel_rfl) (fun _ _ _ h => h) (Or.inr ⟨by rfl, rfl⟩) (by assumption) ?Nr11
          case' Nr11 => try simp only [Act.put, List.setIfInBounds_toArray, List.set_cons_zero, List.set_cons_succ]
          refine wpAnyH_takeL (i := 12) (v := undef) rfl (by kernel_rfl) (by kernel_rfl) (by kernel_rfl) (fun _ _ _ h => h) (Or.inr ⟨by rfl, rfl⟩) (by assumption) ?Nr12
          case' Nr12 => try simp only [Act.put, List.setIfInBounds_toArray, List.set_cons_zero, List.set_cons_succ]
          refine wpAnyH_takeL (i := 13) (v := undef) rfl (by kernel_rfl) (by kernel_rfl) (by kernel_rfl) (fun _ _ _ h => h) (Or.inr ⟨by rfl, rfl⟩) (by assumption) ?Nr13
          case' Nr13 => try simp only [Act.put, List.setIfInBounds_toArray, List.set_cons_zero, List.set_cons_succ]
          refine wpAnyH_takeL (i := 14) (v := ?Nv14) rfl (by kernel_rfl) (by kernel_rfl) (by kernel_rfl) (fun _ _ _ h => h) (Or.inl ⟨by rfl, ?Ny14⟩) (by assumption) ?Nr14
          case Ny14 => first | (intro w hSw; (try dsimp only at hSw); go_simp; done) | (intro w hSw; (try dsimp only at hSw); go_simp; with_reducible rfl)
          case' Nr14 => try simp only [Act.put, List.setIfInBounds_toArray, List.set_cons_zero, List.set_cons_succ]
          refine wpAnyH_takeL (i := 15) (v := ?Nv15) rfl (by kernel_rfl) (by kernel_rfl) (by kernel_rfl) (fun _ _ _ h => h) (Or.inl ⟨by rfl, ?Ny15⟩) (by assumption) ?Nr15
          case Ny15 => first | (intro w hSw; (try dsimp only at hSw); go_simp; done) | (intro w hSw; (try dsimp only at hSw); go_simp; with_reducible rfl)
          case' Nr15 => try simp only [Act.put, List.setIfInBounds_toArray, List.set_cons_zero, List.set_cons_succ]
          refine wpAnyH_takeL (i := 16) (v := ?Nv16) rfl (by kernel_rfl) (by kernel_rfl) (by kernel_rfl) (fun _ _ _ h => h) (Or.inl ⟨by rfl, ?Ny16⟩) (by assumption) ?Nr16
          case Ny16 => first | (intro w hSw; (try dsimp only at hSw); go_simp; done) | (intro w hSw; (try dsimp only at hSw); go_simp; with_reducible rfl)
          case' Nr16 => try simp only [Act.put, List.setIfInBounds_toArray, List.set_cons_zero, List.set_cons_succ]
          refine wpAnyH_takeL (i := 17) (v := ?Nv17) rfl (by kernel_rfl) (by kernel_rfl) (by kernel_rfl) (fun _ _ _ h => h) (Or.inl ⟨by rfl, ?Ny17⟩) (by assumption) ?Nr17
          case Ny17 => first | (intro w hSw; (try dsimp only at hSw); go_simp; done) | (intro w hSw; (try dsimp only at hSw); go_simp; with_reducible rfl)
          case' Nr17 => try simp only [Act.put, List.setIfInBounds_toArray, List.set_cons_zero, List.set_cons_succ]
          refine wpAnyH_takeL (i := 20) (v := ?Nv20) rfl (by kernel_rfl) (by kernel_rfl) (by kernel_rfl) (fun _ _ _ h => h) (Or.inl ⟨by rfl, ?Ny20⟩) (by assumption) ?Nr20
          case Ny20 => first | (intro w hSw; (try dsimp only at hSw); go_simp; done) | (intro w hSw; (try dsimp only at hSw); go_simp; with_reducible rfl)
          case' Nr20 => try simp only [Act.put, List.setIfInBounds_toArray, List.set_cons_zero, List.set_cons_succ]
          refine wpAnyH_takeL (i := 21) (v := ?Nv21) rfl (by kernel_rfl) (by kernel_rfl) (by kernel_rfl) (fun _ _ _ h => h) (Or.inl ⟨by rfl, ?Ny21⟩) (by assumption) ?Nr21
          case Ny21 => first | (intro w hSw; (try dsimp only at hSw); go_simp; done) | (intro w hSw; (try dsimp only at hSw); go_simp; with_reducible rfl)
          case' Nr21 => try simp only [Act.put, List.setIfInBounds_toArray, List.set_cons_zero, List.set_cons_succ]
          refine wpAnyH_ready (rs := [18]) (by kernel_rfl) (by simp) ?_
          refine AllReadyH.consL rfl (fun K hK => ?_) AllReadyH.nil
          go_simp
          go_at_call 15
          refine (changes_any _ mb bm 4 _ _ (HM5.out.ext ((Ext.refl _).drew))).mono ?_
          rintro e w6 ⟨hx6, v, L, rfl, hsl, hpw, hmem⟩
          obtain ⟨cA, cc, rfl, hc1, hc2⟩ := hsl.form
          have hle : (L.length : Int) ≤ sw := by have := asc_length L sa sw.toNat hpw (fun x hx => HMM.out x ((hmem x).1 hx)); omega
          clear hsl hpw hmem
          refine hK.out _ _ (hx6.cell s1) (fun hSN1 => ?_)
          clear hK K
          try simp only [Act.put, List.setIfInBounds_toArray, List.set_cons_zero, List.set_cons_succ]
          refine wpAnyH_takeL (i := 19) (v := ?Nv19) rfl (by kernel_rfl) (by kernel_rfl) (by kernel_rfl) (fun _ _ _ h => h) (Or.inl ⟨by rfl, ?Ny19⟩) (by assumption) ?Nr19
          case Ny19 => first | (intro w hSw; (try dsimp only at hSw); go_simp; done) | (intro w hSw; (try dsimp only at hSw); go_simp; with_reducible rfl)
          case' Nr19 => try simp only [Act.put, List.setIfInBounds_toArray, List.set_cons_zero, List.set_cons_succ]
          refine wpAnyH_takeL (i := 22) (v := ?Nv22) rfl (by kernel_rfl) (by kernel_rfl) (by kernel_rfl) (fun _ _ _ h => h) (Or.inl ⟨by rfl, ?Ny22⟩) (by assumption) ?Nr22
          case Ny22 => first | (intro w hSw; (try dsimp only at hSw); go_simp; done) | (intro w hSw; (try dsimp only at hSw); go_simp; with_reducible rfl)
          case' Nr22 => try simp only [Act.put, List.setIfInBounds_toArray, List.set_cons_zero, List.set_cons_succ]
          refine wpAnyH_takeL (i := 23) (v := ?Nv23) rfl (by kernel_rfl) (by kernel_rfl) (by kernel_rfl) (fun _ _ _ h => h) (Or.inl ⟨by rfl, ?Ny23⟩) (by assumption) ?Nr23
          case Ny23 => first | (intro w hSw; (try dsimp only at hSw); go_simp; done) | (intro w hSw; (try dsimp only at hSw); go_simp; with_reducible rfl)
          case' Nr23 => try simp only [Act.put, List.setIfInBounds_toArray, List.set_cons_zero, List.set_cons_succ]
          refine wpAnyH_takeL (i := 24) (v := ?Nv24) rfl (by kernel_rfl) (by kernel_rfl) (by kernel_rfl) (fun _ _ _ h => h) (Or.inl ⟨by rfl, ?Ny24⟩) (by assumption) ?Nr24
          case Ny24 => first | (intro w hSw; (try dsimp only at hSw); go_simp; done) | (intro w hSw; (try dsimp only at hSw); go_simp; with_reducible rfl)
          case' Nr24 => try simp only [Act.put, List.setIfInBounds_toArray, List.set_cons_zero, List.set_cons_succ]
          refine wpAnyH_ready (rs := [25]) (by kernel_rfl) (by simp) ?_
          refine AllReadyH.consL rfl (fun K hK => ?_) AllReadyH.nil
          go_simp
          go_at_call 11
          refine (example_any _).mono ?_
          rintro e w7 ⟨rfl, hx7⟩
          refine hK.out _ _ (hx7.cell (hx6.cell s1)) (fun hSN2 => ?_)
          clear hK K
          try simp only [Act.put, List.setIfInBounds_toArray, List.set_cons_zero, List.set_cons_succ]
          refine wpAnyH_takeL (i := 26) (v := ?Nv26) rfl (by kernel_rfl) (by kernel_rfl) (by kernel_rfl) (fun _ _ _ h => h) (Or.inl ⟨by rfl, ?Ny26⟩) (by assumption) ?Nr26
          case Ny26 => first | (intro w hSw; (try dsimp only at hSw); go_simp; done) | (intro w hSw; (try dsimp only at hSw); go_simp; with_reducible rfl)
          case' Nr26 => try simp only [Act.put, List.setIfInBounds_toArray, List.set_cons_zero, List.set_cons_succ]
          refine wpAnyH_takeL (i := 27) (v := ?Nv27) rfl (by kernel_rfl) (by kernel_rfl) (by kernel_rfl) (fun _ _ _ h => h) (Or.inl ⟨by rfl, ?Ny27⟩) (by assumption) ?Nr27
          case Ny27 => first | (intro w hSw; (try dsimp only at hSw); go_simp; done) | (intro w hSw; (try dsimp only at hSw); go_simp; with_reducible rfl)
          case' Nr27 => try simp only [Act.put, List.setIfInBounds_toArray, List.set_cons_zero, List.set_cons_succ]
          refine wpAnyH_done (by kernel_rfl) ?_ _
        all_goals
          go_wp2
          go_ret
          exact ⟨rfl, HE.out.trans (H5.out.trans (hx6.drew_left.trans hx7))⟩
      · as_aux_lemma =>
        have hg1 : ((g : Int) != 0) = true := by simpa using hg0
        have hab : a1 = b1 := by
          have h1 := HB.out
          rw [storeMap_no (by rw [HG.out]; exact hg0), HA.out] at h1
          injection h1
        subst hab
        have haa : ((a1 : Int) != (a1 : Int)) = false := by simp
        go_wp2_with fail
        refine (changes_any w4 mb bm 4 _ _ HM4.out).mono ?_
        rintro e w5 ⟨hx5, v, L, rfl, hsl, hpw, hmem⟩
        have hLe : L = [] := by
          rw [storeMap_no (by rw [HG.out]; exact hg0)] at hmem
          cases L with
          | nil => rfl
          | cons x r =>
            have := (hmem x).1 (by simp)
            rw [changed_none] at this
            cases this
        subst hLe
        obtain ⟨cA, cc, rfl, hc1, hc2⟩ := hsl.form
        have H5 := hid (H4.out.trans hx5)
        clear hx5 hsl hpw hmem
        go_wp2_with fail
        refine (example_any _).mono ?_
        rintro e w6 ⟨rfl, hx⟩
        have HX := hid (HE.out.trans (H5.out.trans hx)); clear hx
        go_wp2
        go_ret
        exact ⟨rfl, HX.out⟩
end Go.Proofs.Ytjfdbfbdkjfgpaa
