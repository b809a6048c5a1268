/- CfgPartition: the law's walk. CfgPartition: the statement: for every input the law returns true and leaves its arguments as they were. No conditions. -/
import Derived.Test.YtolbnhkdpbdhhaaParB
import Derived.Test.YtolbnhkdpbdhhaaCfgN
import Derived.Test.YtolbnhkdpbdhhaaOpen17
import Derived.WalkKit
import Derived.ProofKit
import Derived.OpenShut
import Derived.ShutString
import Derived.ChangeOld
import Derived.Below
import Derived.Lib.SmallJoins
namespace Go.Proofs.Ytolbnhkdpbdhhaa
open Go.RowKit Go.Deco
set_option linter.unusedSimpArgs false
set_option linter.unusedVariables false
set_option maxRecDepth 100000

def lenSum (l : List Bs) (k : Nat) : Nat := ((l.take k).map fun b => b.ins.length).sum
theorem lenSum_step {l : List Bs} {k : Nat} {x : Bs} (h : l[k]? = some x) : lenSum l (k + 1) = lenSum l k + x.ins.length := by
  unfold lenSum
  rw [take_snoc' h, List.map_append, List.sum_append]
  simp
theorem lenSum_le (l : List Bs) (k : Nat) : lenSum l k ≤ (l.map fun b => b.ins.length).sum := by
  unfold lenSum
  have h : (l.map fun b => b.ins.length).sum = ((l.take k).map fun b => b.ins.length).sum + ((l.drop k).map fun b => b.ins.length).sum := by
    rw [← List.sum_append, ← List.map_append, List.take_append_drop]
  omega
def inCnt (ins : List In) (l : List Bs) (k : Nat) : Nat := (ins.take k).countP fun i => (atBs l i.addr).2
theorem inCnt_step {ins : List In} {l : List Bs} {k : Nat} {x : In} {b : Bool} (h : ins[k]? = some x) (hb : (atBs l x.addr).2 = b) : inCnt ins l (k + 1) = inCnt ins l k + (if b then 1 else 0) := by
  unfold inCnt
  rw [take_snoc' h, List.countP_append]
  subst hb
  simp [List.countP_cons]
theorem inCnt_le (ins : List In) (l : List Bs) (k : Nat) : inCnt ins l k ≤ k := by
  unfold inCnt
  refine Nat.le_trans List.countP_le_length ?_
  rw [List.length_take]
  omega

set_option maxHeartbeats 8000000 in
theorem partlaw_any (w : World) (A E U B T Q : Option Addr) (n c ne ce nu cu nb cb nt ct nq cq : Nat) (ins : List In) (entries : List Nat) (tabs : List (List Nat)) (at_ : List Nat) (hi : Sl insR w All (.slice A n c) ins) (he : Sl u32R w All (.slice E ne ce) entries)
    (ht : Sl u32sR w All (.slice T nt ct) tabs) (hq : Sl u32R w All (.slice Q nq cq) at_) :
    Calls Try.prog 8 #[.agg #[.slice A n c, .slice E ne ce, .slice U nu cu, .slice B nb cb], .slice T nt ct, .slice Q nq cq] w (OneBool w true) := by
  obtain ⟨W0, hW0⟩ : ∃ W0, w.alloc (.cells #[.slice A n c, .slice E ne ce, .slice U nu cu, .slice B nb cb] 25) = W0 := ⟨_, rfl⟩
  have hE : Ext w W0 := by rw [← hW0]; exact (Ext.refl w).alloc _
  have q0 : W0.cell? ⟨w.heap.size, 0, none⟩ = some (.slice A n c) := by rw [← hW0]; simp [go_sem]
  have q1 : W0.cell? ⟨w.heap.size, 1, none⟩ = some (.slice E ne ce) := by rw [← hW0]; simp [go_sem]
  have q2 : W0.cell? ⟨w.heap.size, 2, none⟩ = some (.slice U nu cu) := by rw [← hW0]; simp [go_sem]
  have q3 : W0.cell? ⟨w.heap.size, 3, none⟩ = some (.slice B nb cb) := by rw [← hW0]; simp [go_sem]
  have HLG := hid (fun W (h : Ext w W) => large_any W A E U B T n c ne ce nu cu nb cb nt ct tabs (ht.ext h))
  have hq9 : nq ≤ 9223372036854775807 := Nat.le_trans hq.cap.1 hq.cap.2
  have HBL := hid (fun W (h : Ext w W) (hn : n ≤ 600) (hne : ne ≤ 600) (htl : ∀ t ∈ tabs, t.length ≤ 100) => cblocks_any W A E U B T Q n c ne ce nu cu nb cb nt ct nq cq ins entries tabs at_ (hi.ext h) (he.ext h) (ht.ext h) (hq.ext h) hn hne hq9 (fun t ht => Nat.le_trans (htl t ht) (by omega)))
  have HPL := hid (fun W (h : Ext w W) (hn : n ≤ 600) => plain17_any W A E U B n c ne ce nu cu nb cb ins (hi.ext h) hn)
  have HIN : Hid (∀ i ∈ ins, i.addr < 4294967296) := hid (fun i h => (ins_ok hi i h).1)
  have HSI := hid (hi.ext hE)
  have HLI := hid hi.len
  obtain ⟨G, hG⟩ : ∃ G, largeB n ne nt tabs = G := ⟨_, rfl⟩
  have HG := hid hG
  rw [hG] at HLG
  have HE := hid hE
  have hcapn := hi.cap
  clear hi he ht hq hq9 hE hG
  go_enter Try.func8, Try.ntmps8
  go_wp2_with fail
  refine (HLG.out W0 HE.out).mono ?_
  rintro e w1 ⟨rfl, hx1⟩
  have q0 := hx1.cell q0
  have q1 := hx1.cell q1
  have q2 := hx1.cell q2
  have q3 := hx1.cell q3
  have HX1 := hid (HE.out.trans hx1)
  have HX01 := hid hx1
  clear hx1 hW0
  cases G with
  | true =>
    go_wp2_with fail
    refine (example_any _).mono ?_
    rintro e wz ⟨rfl, hxz⟩
    have HXZ := hid hxz; clear hxz
    go_wp2
    go_ret
    exact ⟨rfl, HX1.out.trans HXZ.out⟩
  | false =>
    obtain ⟨hs1, hs2, -, hs3⟩ := largeB_small HG.out
    have HBL1 := hid (fun W h => HBL.out W h hs1 hs2 hs3)
    have HPL1 := hid (HPL.out w1 HX1.out hs1)
    have HN600 := hid hs1
    clear hs1 hs2 hs3
    go_wp2_with fail
    refine (HPL1.out).mono ?_
    rintro e w2 ⟨pb, rfl, hx2, hpb⟩
    have HX2 := hid (HX1.out.trans hx2)
    have HX02 := hid (HX01.out.trans hx2)
    have HPB := hid hpb
    have q0 := hx2.cell q0
    have q1 := hx2.cell q1
    have q2 := hx2.cell q2
    have q3 := hx2.cell q3
    clear hx2 hpb
    cases pb with
    | false =>
      go_wp2_with fail
      refine (example_any _).mono ?_
      rintro e wz ⟨rfl, hxz⟩
      have HXZ := hid hxz; clear hxz
      go_wp2
      go_ret
      exact ⟨rfl, HX2.out.trans HXZ.out⟩
    | true =>
    have HB := hid (HBL1.out w2 HX2.out)
    obtain ⟨⟨l, er⟩, hl⟩ : ∃ r, blocksR ins entries tabs at_ = r := ⟨_, rfl⟩
    rw [hl] at HB
    have HLE := hid hl
    clear hl
    go_wp2_with fail
    refine (HB.out).mono ?_
    rintro e w3 ⟨hx3, AL, cL, rfl, hsL⟩
    simp only [] at hsL ⊢
    obtain ⟨N, hN⟩ : ∃ N, l.length = N := ⟨_, rfl⟩
    rw [hN] at hsL ⊢
    have HN := hid hN
    have HX3 := hid (HX2.out.trans hx3)
    have HX03 := hid (HX02.out.trans hx3)
    have HSL := hid hsL
    have HCL := hid hsL.cap
    have HQ0 := hid (hx3.cell q0)
    clear hx3 hsL q0 q1 q2 q3 hN
    by_cases her : er = 0
    case neg =>
      obtain ⟨hl0, her2⟩ := blocksR_err HLE.out her
      obtain rfl : N = 0 := by rw [← HN.out, hl0]; rfl
      have n1 : ((er : Int) != 0) = true := by simpa using her
      clear hl0 her
      rcases her2 with rfl | rfl
      · go_wp2_with fail
        refine (example_any _).mono ?_
        rintro e wz ⟨rfl, hxz⟩
        have HXZ := hid hxz; clear hxz
        go_wp2
        go_ret
        exact ⟨rfl, HX3.out.trans HXZ.out⟩
      · go_wp2_with fail
        refine (example_any _).mono ?_
        rintro e wz ⟨rfl, hxz⟩
        have HXZ := hid hxz; clear hxz
        go_wp2
        go_ret
        exact ⟨rfl, HX3.out.trans HXZ.out⟩
    case pos =>
    subst her
    have HPK := hid (part_ok (HPB.out (by trivial)) HIN.out HLE.out)
    have hN256 : N ≤ 256 := by rw [← HN.out]; exact HPK.out.len
    have HCK := hid (check_any w3 AL N cL l HSL.out)
    have HC0 := hid HPK.out.chk
    have hN600 : ¬ ((N : Int) > 600) := by omega
    go_wp2_with fail
    refine (HCK.out).mono ?_
    rintro e w4 ⟨rfl, hx4⟩
    rw [HC0.out]
    have HX4 := hid (HX3.out.trans hx4)
    have HX04 := hid (HX03.out.trans hx4)
    have HSL4 := hid (HSL.out.ext hx4)
    have HQ4 := hid (hx4.cell HQ0.out)
    have HBA := hid (fun W (h : Ext w4 W) a => blockat_any W AL N cL l (HSL4.out.ext h) a)
    have HTOT : Hid ((l.map fun b => b.ins.length).sum ≤ 600) := hid (by
      rw [HPK.out.sum]
      exact Nat.le_trans List.countP_le_length (by rw [← HLI.out]; exact HN600.out))
    have mixed : Try.prog.follows Departure.mixedOrders = true := by kernel_rfl
    clear hx4 hN600
    go_wp2
    go_loopw [9, 10] (fun s9 s10 wr => ∃ k m : Nat, k ≤ N ∧ s10 = .int .i64 k ∧ s9 = .int .i64 m ∧ Hid (m = lenSum l k) ∧ Hid (Ext w4 wr)) (fun _ s10 _ => N - (intOf s10).toNat)
    case atStart => exact ⟨0, 0, by omega, rfl, rfl, hid rfl, hid (Ext.refl _)⟩
    case round =>
      obtain ⟨k, m, hk, rfl, rfl, HM, HX⟩ := hrel
      by_cases hkN : k < N
      · obtain ⟨x, hx⟩ : ∃ x, l[k]? = some x := ⟨_, List.getElem?_eq_getElem (by have := HN.out; omega)⟩
        have hxm := List.mem_of_getElem? hx
        have hxl := HPK.out.lt x hxm
        obtain ⟨b, off, A1, c1, A2, c2, A3, c3, rfl, h1, h2, -, -, -, z0, z1, z2, z3, -⟩ := Sl.bs_at (HSL4.out.ext HX.out) hx
        have i1 : (k : Int) < (N : Int) := by omega
        have i0 : (0 : Int) ≤ (k : Int) := by omega
        have i3 : decide (x.end_ ≤ x.addr) = false := decide_eq_false (by omega)
        have i2 : decide ((x.end_ : Int) ≤ (x.addr : Int)) = false := decide_eq_false (by omega)
        have HXK := hid hx
        have HXM := hid hxm
        have HH2 := hid h2
        obtain ⟨L1, hL1⟩ : ∃ L1, x.ins.length = L1 := ⟨_, rfl⟩
        obtain ⟨L2, hL2⟩ : ∃ L2, x.succ.length = L2 := ⟨_, rfl⟩
        rw [hL1] at z2
        rw [hL2] at z3 HH2
        have HL1 := hid hL1
        have HL2 := hid hL2
        have hst := lenSum_step hx
        have hle := lenSum_le l (k + 1)
        have htot := HTOT.out
        have hml : m + L1 ≤ 600 := by rw [HM.out, ← HL1.out]; omega
        have HST : Hid (m + L1 = lenSum l (k + 1)) := hid (by rw [hst, ← HM.out, HL1.out])
        have hcz := h2.cap
        rw [hL2] at hcz
        clear hst hle htot hx hxm hxl h1 h2 hL1 hL2
        go_upto_region 12 with fail
        go_cut [92] from 64 to 92 (fun s92 wx => s92 = .bool false ∧ Hid (Ext wr wx))
        case first =>
          by_cases hk0 : k = 0
          · have d1 : decide ((k : Int) > 0) = false := decide_eq_false (by omega)
            have d2 : decide (0 < (k : Int)) = false := decide_eq_false (by omega)
            have d3 : decide (0 < k) = false := decide_eq_false (by omega)
            clear hk0
            go_big_quiet_o (fail)
            go_wp2
            go_meet
            exact ⟨rfl, hid ((Ext.refl wr).drewN _)⟩
          · obtain ⟨q, hq⟩ : ∃ q, k = q + 1 := ⟨k - 1, by omega⟩
            obtain ⟨y, hy⟩ : ∃ y, l[q]? = some y := ⟨_, List.getElem?_eq_getElem (by have := HN.out; omega)⟩
            have hyx := HPK.out.ord q y x hy (by rw [← hq]; exact HXK.out)
            obtain ⟨b', off', _, _, _, _, _, _, hA, -, -, -, -, -, -, v1, -, -, -⟩ := Sl.bs_at (HSL4.out.ext HX.out) hy
            cases hA
            have d1 : decide ((k : Int) > 0) = true := decide_eq_true (by omega)
            have d2 : decide (0 < (k : Int)) = true := decide_eq_true (by omega)
            have d3 : decide (0 < k) = true := decide_eq_true (by omega)
            have d4 : decide ((x.addr : Int) < (y.end_ : Int)) = false := decide_eq_false (by omega)
            have d5 : decide (x.addr < y.end_) = false := decide_eq_false (by omega)
            have f3 : IntKind.i64.wrap ((k : Int) - 1) = (q : Int) := by rw [hq]; rw [IntWalk.i64_in _ (by omega)]; omega
            have g1 : (0 : Int) ≤ (q : Int) := by omega
            have g2 : (q : Int) < (N : Int) := by omega
            clear hq hy hyx hk0
            go_big_quiet_o (fail)
            go_wp2
            go_meet
            exact ⟨rfl, hid ((Ext.refl wr).drewN _)⟩
        case rest =>
          obtain ⟨rfl, hx5⟩ := hcut
          have HX5 := hid (HX.out.trans hx5.out)
          have HXX0 := hx5
          have z2 := hx5.out.cell z2
          have z3 := hx5.out.cell z3
          have e1 : IntKind.i64.wrap ((m : Int) + (L1 : Int)) = ((m + L1 : Nat) : Int) := by rw [IntWalk.i64_in _ (by omega)]; omega
          have hm6 : ¬ (((m + L1 : Nat) : Int) > 600) := by omega
          obtain ⟨S, hS⟩ : ∃ S, m + L1 = S := ⟨_, rfl⟩
          rw [hS] at e1 hm6 hml HST
          have Z3 := hid z3
          clear hx5 i2 i3 z0 z1 hS
          go_wp2
          clear z2 z3 e1 hm6
          go_loopw [11] (fun s11 wi => ∃ p : Nat, p ≤ L2 ∧ s11 = .int .i64 p ∧ Hid (Ext wc wi)) (fun s11 _ => L2 - (intOf s11).toNat)
          case atStart => exact ⟨0, by omega, rfl, hid (Ext.refl _)⟩
          case round =>
            obtain ⟨p, hp, rfl, HXV⟩ := hrel
            have z3 := HXV.out.cell Z3.out
            by_cases hpL : p < L2
            · obtain ⟨s, hs⟩ : ∃ s, x.succ[p]? = some s := ⟨_, List.getElem?_eq_getElem (by have := HL2.out; omega)⟩
              have HXI := hid (HX5.out.trans HXV.out)
              obtain ⟨jj, y, hj1, hj2, hj3⟩ := HPK.out.succ x HXM.out s (List.mem_of_getElem? hs)
              have HBS := hid (HBA.out wr HXI.out s)
              rw [hj1] at HBS
              simp only [] at HBS
              have HS2 : Hid (Sl u32R wr All (.slice A2 L2 c2) x.succ) := hid (HH2.out.ext (HXX0.out.trans HXV.out))
              obtain ⟨d, u, rfl, cy, hs32⟩ := HS2.out.num_at hs
              have hjN := (List.getElem?_eq_some_iff.1 hj2).1
              rw [HN.out] at hjN
              have HJ2 := hid hj2
              have HJ3 := hid hj3
              have P1 : (p : Int) < (L2 : Int) := by omega
              have P0 : (0 : Int) ≤ (p : Int) := by omega
              clear hs hj1 hj2 hj3
              go_wp2_with fail
              refine (HBS.out).mono ?_
              rintro e w7 ⟨rfl, hx7⟩
              have HX7 := hid (HXI.out.trans hx7)
              have HX7V := hid (HXV.out.trans hx7)
              have z3 := hx7.cell z3
              have cy := hx7.cell cy
              obtain ⟨b', off', _, _, _, _, _, _, hA, -, -, -, -, -, v0, -, -, -, -⟩ := Sl.bs_at (HSL4.out.ext HX7.out) HJ2.out
              cases hA
              rw [HJ3.out] at v0
              have d1 : decide ((jj : Int) < 0) = false := decide_eq_false (by omega)
              have d2 : decide ((jj : Int) ≥ (N : Int)) = false := decide_eq_false (by omega)
              have d3 : decide ((N : Int) ≤ (jj : Int)) = false := decide_eq_false (by omega)
              have d3' : decide (N ≤ jj) = false := decide_eq_false (by omega)
              have d4 : ((s : Int) != (s : Int)) = false := by simp
              have g1 : (0 : Int) ≤ (jj : Int) := by omega
              have g2 : (jj : Int) < (N : Int) := by omega
              clear hx7 hjN
              go_upto_region 21 with fail
              go_cut [153] from 126 to 153 (fun s wx => s = .bool false ∧ Hid (Ext w7 wx))
              case first =>
                go_big_quiet_o (fail)
                go_wp2
                go_meet
                exact ⟨rfl, hid ((Ext.refl w7).drewN _)⟩
              case rest =>
                obtain ⟨rfl, hx8⟩ := hcut
                have HX8 := hid (HX7V.out.trans hx8.out)
                clear d1 d2 d3 d3' d4
                go_wp2
                first
                  | go_roundw
                  | refine ⟨?rel, ?measure⟩
                case rel => exact ⟨p + 1, by omega, by go_num, HX8⟩
                case measure => simp [intOf]; omega
            · obtain rfl : p = L2 := by omega
              have HX9 := hid (HX5.out.trans HXV.out)
              go_wp2
              first
                | go_roundw
                | refine ⟨?rel, ?measure⟩
              case rel => exact ⟨k + 1, S, by omega, by go_num, rfl, HST, HX9⟩
              case measure => simp [intOf]; omega
      · obtain rfl : k = N := by omega
        have HM2 : Hid (m = ins.countP fun i => (atBs l i.addr).2) := hid (by
          rw [HM.out, ← HPK.out.sum]
          unfold lenSum
          rw [List.take_of_length_le (by have := HN.out; omega)])
        obtain ⟨V, hV⟩ : ∃ V, V = wr := ⟨_, rfl⟩
        subst hV
        have HXV := HX
        go_wp2
        go_loopw [14, 15] (fun s14 s15 wr => ∃ t cnt : Nat, t ≤ n ∧ s15 = .int .i64 t ∧ s14 = .int .i64 cnt ∧ Hid (cnt = inCnt ins l t) ∧ Hid (Ext w4 wr)) (fun _ s15 _ => n - (intOf s15).toNat)
        case atStart => exact ⟨0, 0, by omega, rfl, rfl, hid rfl, HXV⟩
        case round =>
          obtain ⟨t, cnt, ht, rfl, rfl, HC, HX⟩ := hrel
          have q0 := HX.out.cell HQ4.out
          by_cases htn : t < n
          · obtain ⟨i, hi⟩ : ∃ i, ins[t]? = some i := ⟨_, List.getElem?_eq_getElem (by have := HLI.out; omega)⟩
            obtain ⟨b, o, rfl, -, z0, z1, z2, z3, z4, z5, z6, z7, z8⟩ := Sl.in_at (HSI.out.ext (HX04.out.trans HX.out)) hi
            have HBS := hid (HBA.out wr HX.out i.addr)
            obtain ⟨bb, hbb⟩ : ∃ bb, (atBs l i.addr).2 = bb := ⟨_, rfl⟩
            obtain ⟨ja, hja⟩ : ∃ ja, (atBs l i.addr).1 = ja := ⟨_, rfl⟩
            rw [hbb, hja] at HBS
            have hstep := inCnt_step hi hbb
            rw [← HC.out] at hstep
            have hcl := inCnt_le ins l t
            rw [← HC.out] at hcl
            have HSTP := hid hstep
            clear hi hbb hja hstep z1 z2 z3 z4 z5 z6 z7 z8
            go_wp2_with fail
            refine (HBS.out).mono ?_
            rintro e w7 ⟨rfl, hx7⟩
            have HX7 := hid (HX.out.trans hx7)
            clear hx7 q0 z0
            cases bb with
            | true =>
              go_wp2
              first
                | go_roundw
                | refine ⟨?rel, ?measure⟩
              case rel => exact ⟨t + 1, cnt + 1, by omega, by go_num, by go_num, hid HSTP.out.symm, HX7⟩
              case measure => simp [intOf]; omega
            | false =>
              go_wp2
              first
                | go_roundw
                | refine ⟨?rel, ?measure⟩
              case rel => exact ⟨t + 1, cnt, by omega, by go_num, rfl, hid HSTP.out.symm, HX7⟩
              case measure => simp [intOf]; omega
          · obtain rfl : t = n := by omega
            have hcm : cnt = m := by
              rw [HC.out, HM2.out]
              unfold inCnt
              rw [List.take_of_length_le (by have := HLI.out; omega)]
            subst hcm
            have HX9 := hid (HX4.out.trans HX.out)
            go_wp2_with fail
            refine (example_any _).mono ?_
            rintro e wz ⟨rfl, hxz⟩
            have HXZ := hid hxz; clear hxz
            go_wp2
            go_ret
            exact ⟨by simp, HX9.out.trans HXZ.out⟩
end Go.Proofs.Ytolbnhkdpbdhhaa

namespace Go.Proofs.Ytolbnhkdpbdhhaa.donePrt
open Go.ChangeShapes Go.WideShapes Go.ChangeAt Go.RowKit Go.Deco Go.Joins Go.Deep
set_option linter.unusedVariables false

theorem own : ownKnob Try.prog.godebug = none := by kernel_rfl
theorem laidOut : laidOutB Try.prog = true := by kernel_rfl
theorem nat32 {n : Int} (h : (Lit.int .u32 n).wf = true) : ∃ k : Nat, n = k ∧ k < 4294967296 := ⟨n.toNat, by have := wf32 h; omega, by have := wf32 h; omega⟩

set_option maxRecDepth 100000 in
theorem lifted (os : Os) (started : os.Started) (H : Type) (enc : TypeId × Value → H) :
    ReturnsInHanded {} Try.checked os 8 .any (Rows.cfgPartitionSpec.pre6 enc Try.prog Try.f8 Rows.cfgPartitionRow.domain false) (Rows.cfgPartitionSpec.post enc Try.prog Try.f8 false true false false) := by
  refine returnsInHanded_of_change (C := Try.checked) own started (by kernel_rfl) Try.func8
    (ChangeSpec.witness6 (enc := enc) (C := Try.checked) false ⟨#[], #[.agg #[.slice none 0 0, .slice none 0 0, .slice none 0 0, .slice none 0 0], .slice none 0 0, .slice none 0 0], []⟩ 8 (by kernel_rfl) (by kernel_rfl) (by kernel_rfl) (by kernel_rfl)) ?_
  intro W base args ds gs before hval0 hW hcnd _
  have hval : ∀ (j : Nat) t v, Try.f8.params[j]? = some t → args[j]? = some v → Value.okWide Try.prog W .any base t v := hval0
  have hW' := hW
  obtain ⟨p, q, hA0, hV, rfl, hfz, hnd⟩ := hW
  have hA : DataW.TrodAll enc Try.prog W 0 (fun _ => true) true Try.f8.params.toList args.toList ds p := hA0
  rw [Try.params8] at hA hval
  obtain ⟨v0, vs0, d0, ds0, p0, q0, hargs, rfl, rfl, h0, r0⟩ := trodAll_cons hA
  obtain ⟨v1, vs1, d1, ds1, p1, q1, rfl, rfl, rfl, h1, r1⟩ := trodAll_cons r0
  obtain ⟨v2, vs2, d2, ds2, p2, q2, rfl, rfl, rfl, h2, r2⟩ := trodAll_cons r1
  obtain ⟨rfl, rfl, rfl⟩ := trodAll_nil r2
  obtain rfl : args = #[v0, v1, v2] := by cases args; simp_all
  obtain ⟨rfl, rfl⟩ := trodVars_none hV
  have k0 := h0
  have k1 := h1
  have k2 := h2
  have lt0 : ∀ x ∈ p0, x.block < W.heap.size := by obtain ⟨m, hm⟩ := k0; exact DataW.trod_lt m _ _ _ hm
  have lt1 : ∀ x ∈ p1, x.block < W.heap.size := by obtain ⟨m, hm⟩ := k1; exact DataW.trod_lt m _ _ _ hm
  have lt2 : ∀ x ∈ p2, x.block < W.heap.size := by obtain ⟨m, hm⟩ := k2; exact DataW.trod_lt m _ _ _ hm
  obtain ⟨A0, E0, U0, B0, c0, ce0, nu0, cu0, nb0, cb0, in0, en0, rfl, hi0, he0⟩ := code_of_trod (hval 0 25 v0 rfl rfl) h0
  obtain ⟨A1, c1, l1, rfl, hl1⟩ := sl_of_trod (R := u32sR) Try.underlying26 (by kernel_rfl) opens_u32s (hval 1 26 v1 rfl rfl) h1
  obtain ⟨A2, c2, l2, rfl, hl2⟩ := sl_of_trod (R := u32R) Try.underlying23 (by kernel_rfl) (opens_u32 Try.underlying39) (hval 2 23 v2 rfl rfl) h2
  clear hA0 hval0
  refine (partlaw_any W A0 E0 U0 B0 A1 A2 in0.length c0 en0.length ce0 nu0 cu0 nb0 cb0 l1.length c1 l2.length c2 in0 en0 l1 l2 hi0 he0 hl1 hl2).mono fun e W' ⟨he, bel⟩ => ?_
  subst he
  exact ⟨_, rfl, _, _, _, [], _, [], hW', trodAll_mk1 (shut_bool Try.underlying4 _), (trodAll_cons_mk (Below.trod laidOut (by kernel_rfl) (of_decide_eq_true (by kernel_rfl)) k0 bel lt0) (trodAll_cons_mk (Below.trod laidOut (by kernel_rfl) (of_decide_eq_true (by kernel_rfl)) k1 bel lt1) (trodAll_cons_mk (Below.trod laidOut (by kernel_rfl) (of_decide_eq_true (by kernel_rfl)) k2 bel lt2) trodAll_mk0))), rfl, Below.frame bel _, fun h => by cases h⟩

theorem over : Rows.cfgPartitionRow.holds Try.pinned (OpenSpec.ofChange Rows.cfgPartitionSpec) :=
  OpenClaim.holds_of_wide 8 Try.f8 rfl rfl rfl rfl rfl rfl rfl ⟨rfl, rfl, rfl, rfl, rfl⟩ rfl rfl rfl rfl rfl (by kernel_rfl) Try.func8 (by kernel_rfl)
    (of_decide_eq_true (by kernel_rfl)) (by unfold Func.isWrapper; first | (rw [if_pos (by decide +kernel)]; kernel_rfl) | (rw [if_neg (by decide +kernel)]; exact ⟨rfl, rfl⟩))
    (fun os started H enc _ => lifted os started H enc)

theorem proved : Rows.CfgPartitionSaid := over
#print axioms proved
end Go.Proofs.Ytolbnhkdpbdhhaa.donePrt
