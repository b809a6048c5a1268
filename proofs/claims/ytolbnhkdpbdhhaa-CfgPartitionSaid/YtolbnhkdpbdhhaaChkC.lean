/- cfg.Check and decompilerref17.Check; CfgChecks: the law's walk. CfgChecks: Check returns what the reference returns: the law's walk. -/
import Derived.Test.YtolbnhkdpbdhhaaChkA
import Derived.Test.YtolbnhkdpbdhhaaChkN
import Derived.Test.YtolbnhkdpbdhhaaSlc
namespace Go.Proofs.Ytolbnhkdpbdhhaa
open Go.RowKit Go.Deco
set_option linter.unusedSimpArgs false
set_option linter.unusedVariables false
set_option maxRecDepth 100000

/-- The error of block x with the blocks ahead of it. -/
def errAt (pre : List Bs) (x : Bs) : Nat := if formedB x = false then 4 else if pre.any (eqBs x.addr) = true then 8 else 0
def chkGo : List Bs → List Bs → Nat
  | _, [] => 0
  | pre, x :: r => if errAt pre x = 0 then chkGo (pre ++ [x]) r else errAt pre x
def checkBs (l : List Bs) : Nat := if 256 < l.length then 6 else chkGo [] l
theorem chk_step {l : List Bs} {k : Nat} {x : Bs} (h : l[k]? = some x) : chkGo (l.take k) (l.drop k) = if errAt (l.take k) x = 0 then chkGo (l.take (k + 1)) (l.drop (k + 1)) else errAt (l.take k) x := by
  rw [drop_cons h, chkGo, take_snoc' h]
theorem info_bas2 : (Try.prog.info? 41).map (fun i => (i.zero, i.size, i.bytes)) = some (some (.agg #[.int .u32 0, .int .u32 0, .slice none 0 0, .slice none 0 0, .slice none 0 0]), 5, 80) := by kernel_rfl

set_option maxHeartbeats 4000000 in
theorem check_any (w : World) (A : Option Addr) (n c : Nat) (l : List Bs) (hl : Sl bsR w All (.slice A n c) l) : Calls Try.prog 23 #[.slice A n c] w fun e w' => e = .returned (.int .i64 (checkBs l)) ∧ Ext w w' := by
  obtain ⟨i0, hi, hz0, hz1, hz2⟩ := info_parts info_bas2
  have HI := hid hi
  have HZ1 := hid hz1
  clear hi hz0 hz1 hz2
  have HLN := hid hl.len
  have hcap := hl.cap
  have HL := hid hl
  obtain ⟨r, hr⟩ : ∃ r, checkBs l = r := ⟨_, rfl⟩
  rw [hr]
  have HR := hid hr
  clear hl hr
  go_enter Try.func23, Try.ntmps23
  by_cases hbig : 256 < n
  · have hr : Hid (r = 6) := hid (by rw [← HR.out, checkBs, if_pos (by rw [← HLN.out]; exact hbig)])
    go_wp2
    go_ret
    rw [hr.out]
    exact ⟨rfl, Ext.refl _⟩
  have HR2 : Hid (r = chkGo (l.take 0) (l.drop 0)) := hid (by rw [← HR.out, checkBs, if_neg (by rw [← HLN.out]; exact hbig)]; rfl)
  go_wp2
  go_loopw [10] (fun i wr => ∃ k : Nat, k ≤ n ∧ i = .int .i64 k ∧ Hid (Ext w wr) ∧ Hid (r = chkGo (l.take k) (l.drop k))) (fun i _ => n - (intOf i).toNat)
  case atStart => exact ⟨0, by omega, rfl, hid (Ext.refl _), HR2⟩
  case round =>
    obtain ⟨k, hk, rfl, HX, HK⟩ := hrel
    by_cases h1 : k < n
    · obtain ⟨x, hx⟩ : ∃ x, l[k]? = some x := ⟨_, List.getElem?_eq_getElem (by have := HLN.out; omega)⟩
      obtain ⟨b, off, A1, c1, A2, c2, A3, c3, rfl, hin, -, -, -, -, e0, e1, e2, e3, e4⟩ := Sl.bs_at (HL.out.ext HX.out) hx
      have hst := chk_step hx
      rw [← HK.out] at hst
      have HST := hid hst
      obtain ⟨W1, hW1⟩ : ∃ W1, wr.alloc (.cells #[.int .u32 x.addr, .int .u32 x.end_, .slice A1 x.ins.length c1, .slice A2 x.succ.length c2, .slice A3 x.calls.length c3] 41) = W1 := ⟨_, rfl⟩
      have hE1 : Ext wr W1 := by rw [← hW1]; exact (Ext.refl wr).alloc _
      have p0 : W1.cell? ⟨wr.heap.size, 0, none⟩ = some (.int .u32 x.addr) := by rw [← hW1]; simp [go_sem]
      have p1 : W1.cell? ⟨wr.heap.size, 1, none⟩ = some (.int .u32 x.end_) := by rw [← hW1]; simp [go_sem]
      have p2 : W1.cell? ⟨wr.heap.size, 2, none⟩ = some (.slice A1 x.ins.length c1) := by rw [← hW1]; simp [go_sem]
      have p3 : W1.cell? ⟨wr.heap.size, 3, none⟩ = some (.slice A2 x.succ.length c2) := by rw [← hW1]; simp [go_sem]
      have p4 : W1.cell? ⟨wr.heap.size, 4, none⟩ = some (.slice A3 x.calls.length c3) := by rw [← hW1]; simp [go_sem]
      have HF := hid (formed_any W1 x A1 A2 A3 x.ins.length c1 x.succ.length c2 x.calls.length c3 (hin.ext hE1))
      have HX1 := hid (HX.out.trans hE1)
      obtain ⟨f, hf⟩ : ∃ f, formedB x = f := ⟨_, rfl⟩
      rw [hf] at HF
      have HFF := hid hf
      clear hx hin hst hE1 hf
      go_wp2_with fail
      refine (HF.out).mono ?_
      rintro e w2 ⟨rfl, hx2⟩
      have HX2 := hid (HX1.out.trans hx2)
      have P0 := hid (hx2.cell p0)
      clear hx2 p0 p1 p2 p3 p4 e0 e1 e2 e3 e4 hW1
      cases f with
      | false =>
        have he : Hid (r = 4) := hid (by
          have h : errAt (l.take k) x = 4 := by rw [errAt, if_pos HFF.out]
          rw [HST.out, h]; rfl)
        go_wp2
        go_ret
        rw [he.out]
        exact ⟨rfl, HX2.out⟩
      | true =>
        have HCE := hid (fun A2 (h : Sl bsR w All (.slice A2 k c) (l.take k)) => containsEq_any w2 x.addr wr.heap.size P0.out All A2 k c (l.take k) (h.ext HX2.out))
        obtain ⟨g, hg⟩ : ∃ g, (l.take k).any (eqBs x.addr) = g := ⟨_, rfl⟩
        rw [hg] at HCE
        have HGG := hid hg
        clear hg
        go_wp2_with (first
          | ((with_reducible refine wpList_at_slice 29 (.tmp 18) none (some (.tmp 19)) rfl rfl ?_); refine wpList_to rfl 29 41 (.tmp 18) (.tmp 19) rfl Try.underlying29 i0 HI.out bsR HZ1.out rfl HL.out k rfl hk ?_; intro A4 hA4; have HA4 := hid hA4; clear hA4)
          | fail)
        refine (HCE.out A4 HA4.out).mono ?_
        rintro e w3 ⟨rfl, hx3⟩
        have HX3 := hid (HX2.out.trans hx3)
        clear hx3
        cases g with
        | true =>
          have he : Hid (r = 8) := hid (by
            have h : errAt (l.take k) x = 8 := by rw [errAt, if_neg (by rw [HFF.out]; simp), if_pos HGG.out]
            rw [HST.out, h]; rfl)
          go_wp2
          go_ret
          rw [he.out]
          exact ⟨rfl, HX3.out⟩
        | false =>
          have he : Hid (r = chkGo (l.take (k + 1)) (l.drop (k + 1))) := hid (by
            have h : errAt (l.take k) x = 0 := by rw [errAt, if_neg (by rw [HFF.out]; simp), if_neg (by rw [HGG.out]; simp)]
            rw [HST.out, if_pos h])
          go_wp2
          first
            | go_roundw
            | refine ⟨?rel, ?measure⟩
          case rel => exact ⟨k + 1, by omega, by go_num, HX3, he⟩
          case measure => simp [intOf]; omega
    · obtain rfl : k = n := by omega
      have he : Hid (r = 0) := hid (by rw [HK.out, List.drop_of_length_le (by have := HLN.out; omega)]; rfl)
      go_wp2
      go_ret
      rw [he.out]
      exact ⟨rfl, HX.out⟩

set_option maxHeartbeats 4000000 in
theorem rcheck17_any (w : World) (A : Option Addr) (n c : Nat) (l : List Bs) (hl : Sl bsR w All (.slice A n c) l) : Calls Try.prog 24 #[.slice A n c] w fun e w' => e = .returned (.int .i64 (checkBs l)) ∧ Ext w w' := by
  have HLN := hid hl.len
  have hcap := hl.cap
  have HL := hid hl
  obtain ⟨r, hr⟩ : ∃ r, checkBs l = r := ⟨_, rfl⟩
  rw [hr]
  have HR := hid hr
  clear hl hr
  go_enter Try.func24, Try.ntmps24
  by_cases hbig : 256 < n
  · have hr : Hid (r = 6) := hid (by rw [← HR.out, checkBs, if_pos (by rw [← HLN.out]; exact hbig)])
    go_wp2
    go_ret
    rw [hr.out]
    exact ⟨rfl, Ext.refl _⟩
  have HR2 : Hid (r = chkGo (l.take 0) (l.drop 0)) := hid (by rw [← HR.out, checkBs, if_neg (by rw [← HLN.out]; exact hbig)]; rfl)
  go_wp2
  go_loopw [3] (fun i wr => ∃ k : Nat, k ≤ n ∧ i = .int .i64 k ∧ Hid (Ext w wr) ∧ Hid (r = chkGo (l.take k) (l.drop k))) (fun i _ => n - (intOf i).toNat)
  case atStart => exact ⟨0, by omega, rfl, hid (Ext.refl _), HR2⟩
  case round =>
    obtain ⟨k, hk, rfl, HX, HK⟩ := hrel
    by_cases h1 : k < n
    · obtain ⟨x, hx⟩ : ∃ x, l[k]? = some x := ⟨_, List.getElem?_eq_getElem (by have := HLN.out; omega)⟩
      obtain ⟨b, off, A1, c1, A2, c2, A3, c3, rfl, hin, -, -, -, -, e0, e1, e2, e3, e4⟩ := Sl.bs_at (HL.out.ext HX.out) hx
      have hst := chk_step hx
      rw [← HK.out] at hst
      have HST := hid hst
      have HF := hid (wrong_any wr x A1 A2 A3 x.ins.length c1 x.succ.length c2 x.calls.length c3 hin)
      obtain ⟨f, hf⟩ : ∃ f, formedB x = f := ⟨_, rfl⟩
      rw [hf] at HF
      have HFF := hid hf
      have HKX := hid hx
      clear hx hin hst hf
      go_wp2_with fail
      refine (HF.out).mono ?_
      rintro e w2 ⟨rfl, hx2⟩
      have HX2 := hid (HX.out.trans hx2)
      have E0 := hid (hx2.cell e0)
      clear hx2 e0 e1 e2 e3 e4
      cases f with
      | false =>
        have he : Hid (r = 4) := hid (by
          have h : errAt (l.take k) x = 4 := by rw [errAt, if_pos HFF.out]
          rw [HST.out, h]; rfl)
        go_wp2
        go_ret
        rw [he.out]
        exact ⟨rfl, HX2.out⟩
      | true =>
        obtain ⟨V, hV⟩ : ∃ V, V = w2 := ⟨_, rfl⟩
        subst hV
        go_wp2
        go_loopw [4] (fun i wi => ∃ j : Nat, j ≤ k ∧ i = .int .i64 j ∧ Hid (Ext V wi) ∧ Hid (∀ y ∈ l.take j, eqBs x.addr y = false)) (fun i _ => k - (intOf i).toNat)
        case atStart => exact ⟨0, by omega, rfl, hid (Ext.refl _), hid (by simp)⟩
        case round =>
          obtain ⟨j, hj, rfl, HXV, HJ⟩ := hrel
          have e0 := HXV.out.cell E0.out
          have HXW := hid (HX2.out.trans HXV.out)
          by_cases h2 : j < k
          · obtain ⟨y, hy⟩ : ∃ y, l[j]? = some y := ⟨_, List.getElem?_eq_getElem (by have := HLN.out; omega)⟩
            obtain ⟨b', off', A1', c1', A2', c2', A3', c3', hA, -, -, -, -, -, d0, -, -, -, -⟩ := Sl.bs_at (HL.out.ext HXW.out) hy
            cases hA
            have HY := hid hy
            have i1 : (j : Int) < (n : Int) := by omega
            have i2 : (k : Int) < (n : Int) := by omega
            clear hy
            by_cases hq : y.addr = x.addr
            · have n1 : ((y.addr : Int) == (x.addr : Int)) = true := by simp [hq]
              have he : Hid (r = 8) := hid (by
                have hg : (l.take k).any (eqBs x.addr) = true := List.any_eq_true.2 ⟨y, List.mem_of_getElem? (by rw [List.getElem?_take, if_pos h2]; exact HY.out), by simp [eqBs, hq]⟩
                have h : errAt (l.take k) x = 8 := by rw [errAt, if_neg (by rw [HFF.out]; simp), if_pos hg]
                rw [HST.out, h]; rfl)
              clear hq
              go_wp2
              go_quiet (fail)
              go_wp2
              go_ret
              rw [he.out]
              exact ⟨rfl, HXW.out.drewN _⟩
            · have n1 : ((y.addr : Int) == (x.addr : Int)) = false := by simp; omega
              have HQ := hid hq
              clear hq
              go_wp2
              go_quiet (fail)
              go_wp2
              first
                | go_roundw
                | refine ⟨?rel, ?measure⟩
              case rel =>
                refine ⟨j + 1, by omega, by go_num, hid (HXV.out.drewN _), hid fun z hz => ?_⟩
                rw [take_snoc' HY.out] at hz
                rcases List.mem_append.1 hz with hz | hz
                · exact HJ.out z hz
                · rw [List.mem_singleton] at hz
                  subst hz
                  simp [eqBs, HQ.out]
              case measure => simp [intOf]; omega
          · obtain rfl : j = k := by omega
            have he : Hid (r = chkGo (l.take (j + 1)) (l.drop (j + 1))) := hid (by
              have hg : ¬ (l.take j).any (eqBs x.addr) = true := fun h => by
                obtain ⟨y, hy, h⟩ := List.any_eq_true.1 h
                rw [HJ.out y hy] at h
                cases h
              have h : errAt (l.take j) x = 0 := by rw [errAt, if_neg (by rw [HFF.out]; simp), if_neg hg]
              rw [HST.out, if_pos h])
            go_wp2
            first
              | go_roundw
              | refine ⟨?rel, ?measure⟩
            case rel => exact ⟨j + 1, by omega, by go_num, HXW, he⟩
            case measure => simp [intOf]; omega
    · obtain rfl : k = n := by omega
      have he : Hid (r = 0) := hid (by rw [HK.out, List.drop_of_length_le (by have := HLN.out; omega)]; rfl)
      go_wp2
      go_ret
      rw [he.out]
      exact ⟨rfl, HX.out⟩
end Go.Proofs.Ytolbnhkdpbdhhaa

namespace Go.Proofs.Ytolbnhkdpbdhhaa
open Go.RowKit Go.Deco
set_option linter.unusedSimpArgs false
set_option linter.unusedVariables false
set_option maxRecDepth 100000

set_option maxHeartbeats 4000000 in
theorem checks_any (w : World) (A : Option Addr) (n c : Nat) (l : List Bs) (hl : Sl bsR w All (.slice A n c) l) :
    Calls Try.prog 7 #[.slice A n c] w (OneBool w true) := by
  have hcap := hl.cap
  have HS := hid hl
  have HLN := hid hl.len
  clear hl
  go_enter Try.func7, Try.ntmps7
  by_cases hn : 400 < n
  · go_wp2_with fail
    refine (example_any _).mono ?_
    rintro e wz ⟨rfl, hxz⟩
    have HXZ := hid hxz; clear hxz
    go_wp2
    go_ret
    exact ⟨rfl, HXZ.out⟩
  have HB := hid (fun W (h : Ext w W) => lblks_any W A n c l (HS.out.ext h) (by omega))
  have HC := hid (check_any w A n c l HS.out)
  have HR := hid (fun W B d (h : Sl bsR W All (.slice B n d) l) => rcheck17_any W B n d l h)
  obtain ⟨r, hr⟩ : ∃ r, checkBs l = r := ⟨_, rfl⟩
  rw [hr] at HC HR
  have hrr : ((r : Int) == (r : Int)) = true := by simp
  clear hr
  go_wp2_with fail
  refine (HC.out).mono ?_
  rintro e w1 ⟨rfl, hx1⟩
  have HX1 := hid hx1
  clear hx1
  go_wp2_with fail
  refine (HB.out _ HX1.out).mono ?_
  rintro e w2 ⟨hx2, B2, c2, rfl, hs2⟩
  have HX2 := hid (HX1.out.trans hx2)
  rw [← HLN.out] at hs2 ⊢
  have HS2 := hid hs2
  clear hx2 hs2
  go_wp2_with fail
  refine (HR.out _ B2 c2 HS2.out).mono ?_
  rintro e w3 ⟨rfl, hx3⟩
  have HX3 := hid (HX2.out.trans hx3)
  clear hx3
  go_wp2_with fail
  refine (example_any _).mono ?_
  rintro e wz ⟨rfl, hxz⟩
  have HXZ := hid hxz; clear hxz
  go_wp2
  go_ret
  exact ⟨rfl, HX3.out.trans HXZ.out⟩
end Go.Proofs.Ytolbnhkdpbdhhaa
