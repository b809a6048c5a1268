/- MemoryBytes: the walk of the statement. -/
import Derived.Test.YtjfdbfbdkjfgpaaLawC
import Derived.Test.YtjfdbfbdkjfgpaaMemQ
import Derived.Deep.DeepCutAuto
namespace Go.Proofs.Ytjfdbfbdkjfgpaa
open Go.RowKit Go.Deco
set_option linter.unusedSimpArgs false
set_option linter.unusedVariables false

/-- The four bytes of a range, as a list. -/
structure Four (regs : List Reg) (M : Nat → Option Nat) (a : Nat) (D : List Nat) (lo hi : Nat) : Prop where
  dump : dumpOf regs M a 4 = (D, 0)
  load : loadOf regs M a 4 = (leNum D, 0)
  low : loadOf regs M a 2 = (lo, 0)
  high : loadOf regs M (a + 2) 2 = (hi, 0)
  one : ∀ k x, D[k]? = some x → loadOf regs M (a + k) 1 = (x, 0)
  len : D.length = 4
  sum : (∀ x ∈ D, x < 256) → lo ≤ 65535 ∧ hi ≤ 65535 ∧ lo + 65536 * hi = leNum D
theorem four_of {regs : List Reg} (hd : Disj regs) {M : Nat → Option Nat} {a : Nat} (h : (loadOf regs M a 4).2 = 0) : ∃ D lo hi, Four regs M a D lo hi := by
  obtain ⟨b0, b1, b2, b3, h1, h2, h3, h4, h5, h6, h7, h8⟩ := load_parts hd h
  refine ⟨[b0, b1, b2, b3], _, _, ⟨h1, by rw [h2]; simp [leNum], h3, h4, fun k x hk => ?_, rfl, fun hb => ?_⟩⟩
  · rcases k with _ | _ | _ | _ | k
    · simp at hk; subst hk; simpa using h5
    · simp at hk; subst hk; exact h6
    · simp at hk; subst hk; exact h7
    · simp at hk; subst hk; exact h8
    · simp at hk
  · simp at hb
    simp [leNum]
    omega
theorem leNum_drop {D : List Nat} {k x : Nat} (h : D[k]? = some x) : leNum (D.drop k) = x + 256 * leNum (D.drop (k + 1)) := by
  rw [drop_cons' h]
  rfl
theorem leNum_drop_lt {D : List Nat} (hl : D.length = 4) (hb : ∀ x ∈ D, x < 256) {k : Nat} (hk : 1 ≤ k) : leNum (D.drop k) ≤ 16777215 := by
  have h := leNum_lt (l := D.drop k) (fun x hx => hb x (List.mem_of_mem_drop hx))
  rw [List.length_drop, hl] at h
  have : 256 ^ (4 - k) ≤ 256 ^ 3 := Nat.pow_le_pow_right (by omega) (by omega)
  omega

set_option maxRecDepth 100000 in
set_option maxHeartbeats 4000000 in
theorem bytes_any (w : World) (A : Option Addr) (n c : Nat) (l : List Sec) (hl : Sl secR w All (.slice A n c) l) (sk sw : Int) (sa sx : Nat)
    (hsw1 : -9223372036854775808 ≤ sw) (hsw2 : sw ≤ 9223372036854775807) (hsa : sa < 4294967296) (hsx : sx < 4294967296) (a : Nat) (ha : a < 4294967296) :
    Calls Try.prog 6 #[.slice A n c, .agg #[.int .i64 sk, .int .i64 sw, .int .u32 sa, .int .u32 sx], .int .u32 a] w (OneBool w true) := by
  have HL := hid hl; clear hl
  go_enter Try.func6, Try.ntmps6
  go_wp2_with fail
  obtain ⟨w0, hw0⟩ : ∃ w0, (w.alloc (Obj.cells #[.int .i64 sk, .int .i64 sw, .int .u32 sa, .int .u32 sx] 25)) = w0 := ⟨_, rfl⟩
  have hE : Ext w w0 := by rw [← hw0]; exact (Ext.refl w).alloc _
  have s1 : w0.cell? ⟨w.heap.size, 1, none⟩ = some (.int .i64 sw) := by rw [← hw0]; exact new_cells w [.int .i64 sk, .int .i64 sw, .int .u32 sa, .int .u32 sx] _ 1 _ rfl
  have s2 : w0.cell? ⟨w.heap.size, 2, none⟩ = some (.int .u32 sa) := by rw [← hw0]; exact new_cells w [.int .i64 sk, .int .i64 sw, .int .u32 sa, .int .u32 sx] _ 2 _ rfl
  have s3 : w0.cell? ⟨w.heap.size, 3, none⟩ = some (.int .u32 sx) := by rw [← hw0]; exact new_cells w [.int .i64 sk, .int .i64 sw, .int .u32 sa, .int .u32 sx] _ 3 _ rfl
  rw [hw0]
  have HS := hid (And.intro s1 (And.intro s2 s3))
  have HE := hid hE
  clear hw0 hE s1 s2 s3
  refine (few_any w0 A n c l (HL.out.ext HE.out)).mono ?_
  rintro e w' ⟨⟨b, rfl⟩, rfl⟩
  cases b
  case' false =>
    go_wp2_with fail
    refine (example_any _).mono ?_
    rintro e w1 ⟨rfl, hx⟩
    have HX := hid (HE.out.trans hx); clear hx
    go_wp2
    go_ret
    exact ⟨rfl, HX.out⟩
  go_wp2_with fail
  refine (new_any w0 A n c l (HL.out.ext HE.out)).mono ?_
  rintro e w1 ⟨hx1, ⟨h0, rfl⟩ | ⟨h0, mb, bm, rfl, hmb, hbm, hm⟩⟩
  · have H1 := hid (HE.out.trans hx1); clear hx1
    have h0' : ((secCheck l : Int) != 0) = true := by simpa using h0
    obtain ⟨er, her⟩ : ∃ er, secCheck l = er := ⟨_, rfl⟩
    rw [her] at h0'
    rw [her]
    clear h0 her
    go_wp2_with fail
    refine (example_any _).mono ?_
    rintro e w2 ⟨rfl, hx⟩
    have HX := hid (H1.out.trans hx); clear hx
    go_wp2
    go_ret
    exact ⟨rfl, HX.out⟩
  have H1 := hid hx1; clear hx1
  have HM := hid hm; clear hm
  have HSC := hid h0; clear h0
  obtain ⟨t1, t2, t3⟩ := HS.out
  have s1 := H1.out.cell t1
  have s2 := H1.out.cell t2
  have s3 := H1.out.cell t3
  clear t1 t2 t3
  go_wp2_with fail
  refine (store_any w1 mb bm 0 _ _ HM.out (by omega) sa hsa sw hsw1 hsw2 sx).mono ?_
  rintro e w2 ⟨rfl, hm2, hg2⟩
  have H2 := hid (H1.out.grown hg2 (fun j hj => by cases hj; exact hbm))
  obtain ⟨M, hM⟩ : ∃ M, storeMap (regsOf l) (fun _ => none) sa sw sx = M := ⟨_, rfl⟩
  rw [hM] at hm2
  have HM2 := hid hm2
  clear hg2 hm2 s1 s2 s3 hM HM
  have HDJ := hid (disj_regs HSC.out)
  obtain ⟨x, hx⟩ : ∃ x, loadOf (regsOf l) M a 4 = x := ⟨_, rfl⟩
  obtain ⟨x1, x2⟩ := x
  have HX := hid hx; clear hx
  go_wp2_with fail
  refine (load_any w2 mb bm 4 _ _ HM2.out a ha 4 (by omega) (by omega)).mono ?_
  rintro e w3 ⟨rfl, hx3⟩
  have H3 := hid (H2.out.trans hx3)
  have HM3 := hid (HM2.out.ext hx3)
  clear hx3
  rw [HX.out]
  go_wp2_with fail
  refine (dump_any w3 mb bm 4 _ _ HM3.out a ha 4 (by omega) (by omega)).mono ?_
  rintro e w4 ⟨hx4, dv, rfl, hds⟩
  have H4 := hid (H3.out.trans hx4)
  have HM4 := hid (HM3.out.ext hx4)
  clear hx4
  by_cases h0 : x2 = 0
  · subst h0
    obtain ⟨D, lo, hi, h4⟩ := four_of HDJ.out (show (loadOf (regsOf l) M a 4).2 = 0 by rw [HX.out])
    rw [h4.dump] at hds
    rw [h4.dump]
    have e1 : x1 = leNum D := by have := HX.out.symm.trans h4.load; injection this
    have hb := hds.num_lt
    obtain ⟨hlo, hhi, hsum⟩ := h4.sum hb
    have hle := load_bound HSC.out (M := M) (a := a) (by rw [HX.out])
    have hlen := h4.len
    obtain ⟨dA, dc, rfl, hc1, hc2⟩ := hds.form
    rw [hlen] at hds hc1
    rw [hlen]
    have HDS := hid hds
    have HB := hid hb
    have H44 := hid h4
    have HLEN := hid hlen
    have he : (((lo : Int) + 65536 * (hi : Int)) == (x1 : Int)) = true := by rw [e1, ← hsum]; simp
    have HEQ := hid e1
    clear hds hb h4 hlen hsum e1
    go_wp2_with fail
    refine (load_any w4 mb bm 4 _ _ HM4.out a ha 2 (by omega) (by omega)).mono ?_
    rintro e w5 ⟨rfl, hx5⟩
    have H5 := hid (H4.out.trans hx5)
    have HM5 := hid (HM4.out.ext hx5)
    have HDS5 := hid (HDS.out.ext hx5)
    clear hx5
    rw [H44.out.low]
    go_wp2_with fail
    refine (load_any w5 mb bm 4 _ _ HM5.out (a + 2) (by omega) 2 (by omega) (by omega)).mono ?_
    rintro e w6 ⟨rfl, hx6⟩
    have H6 := hid (H5.out.trans hx6)
    have HM6 := hid (HM5.out.ext hx6)
    have HDS6 := hid (HDS5.out.ext hx6)
    clear hx6
    rw [H44.out.high]
    go_wp2
    go_loopw [17, 18] (fun s i wr => ∃ (j t : Nat), j ≤ 4 ∧ i = .int .i64 ((j : Int) - 1) ∧ s = .int .u32 t ∧ Hid (Ext w6 wr) ∧ Hid (t = leNum (D.drop j))) (fun _ i _ => (intOf i + 1).toNat)
    case atStart => exact ⟨4, 0, by omega, rfl, rfl, hid (Ext.refl _), hid (by rw [List.drop_of_length_le (by have := HLEN.out; omega)]; rfl)⟩
    case round =>
      obtain ⟨j, t, hj, rfl, rfl, hew, ht⟩ := hrel
      rcases j with _ | k
      · have e1 := ht.out
        rw [List.drop_zero, ← HEQ.out] at e1
        subst e1
        have hneg : ((0 : Nat) : Int) - 1 = -1 := rfl
        rw [hneg]
        clear hneg
        have H7 := hid (H6.out.trans hew.out)
        go_wp2_with fail
        refine (example_any _).mono ?_
        rintro e wz ⟨rfl, hx⟩
        have HX := hid (HE.out.trans (H7.out.trans hx)); clear hx
        go_wp2
        go_ret
        exact ⟨rfl, HX.out⟩
      · obtain ⟨x, hx⟩ : ∃ x, D[k]? = some x := ⟨_, List.getElem?_eq_getElem (by have := HLEN.out; omega)⟩
        have hxb := HB.out x (List.mem_of_getElem? hx)
        obtain ⟨gb, off, rfl, cc, -⟩ := HDS6.out.num_at hx
        have htb := leNum_drop_lt HLEN.out HB.out (k := k + 1) (by omega)
        rw [← ht.out] at htb
        have HD1 := hid (leNum_drop hx)
        have HLK := hid (H44.out.one k x hx)
        have hkc : (((k + 1 : Nat) : Int) - 1) = (k : Int) := by omega
        rw [hkc]
        clear hx hkc
        have HCC := hid cc
        clear cc
        go_wp2_with fail
        refine (load_any _ mb bm 4 _ _ (HM6.out.ext hew.out) (a + k) (by omega) 1 (by omega) (by omega)).mono ?_
        rintro e w8 ⟨rfl, hx8⟩
        rw [HLK.out]
        have cc := (hew.out.trans hx8).cell HCC.out
        have HX8 := hid hx8
        clear hx8
        go_wp2
        go_roundw
        case rel => exact ⟨k, 256 * t + x, by omega, rfl, by go_num, hid (hew.out.trans HX8.out), hid (by rw [HD1.out, ← ht.out]; omega)⟩
        case measure => simp [intOf]
  · have h1 : ((x2 : Int) != 0) = true := by simpa using h0
    obtain ⟨e1, e2⟩ := load_no_parts (l := regsOf l) (M := M) (a := a) (by rw [HX.out]; exact h0)
    rw [HX.out] at e1 e2
    simp only at e1 e2
    subst e2
    rw [e1] at hds
    rw [e1]
    obtain ⟨dA, dc, rfl, hc1, hc2⟩ := hds.form
    have hff : ((x2 : Int) != (x2 : Int)) = false := by simp
    have hgg : ((x2 : Int) == 0) = false := by simpa using h0
    clear hds e1
    go_wp2_with fail
    refine (example_any _).mono ?_
    rintro e wz ⟨rfl, hx⟩
    have HX := hid (HE.out.trans (H4.out.trans hx)); clear hx
    go_wp2
    go_ret
    exact ⟨rfl, HX.out⟩
end Go.Proofs.Ytjfdbfbdkjfgpaa
