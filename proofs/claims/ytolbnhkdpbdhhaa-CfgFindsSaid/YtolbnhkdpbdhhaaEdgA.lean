/- CfgEdges: a block has a predecessor if and only if it is one of that block's successors: the law's walk. -/
import Derived.Test.YtolbnhkdpbdhhaaL17A
import Derived.Test.YtolbnhkdpbdhhaaCfgO
namespace Go.Proofs.Ytolbnhkdpbdhhaa
open Go.RowKit Go.Deco
set_option linter.unusedSimpArgs false
set_option linter.unusedVariables false
set_option maxRecDepth 100000

theorem i64_at {w : World} {S : Nat → Prop} {A : Option Addr} {n c k : Nat} {l : List Int} {x : Int} (h : Sl i64R w S (.slice A n c) l) (hk : l[k]? = some x) :
    ∃ b off, A = some ⟨b, off, none⟩ ∧ w.cell? ⟨b, off + k, none⟩ = some (.int .i64 x) ∧ -9223372036854775808 ≤ x ∧ x ≤ 9223372036854775807 := by
  obtain ⟨b, off, cs, hA, ⟨hcs, h1, h2⟩, hc⟩ := h.get hk
  subst hcs
  exact ⟨b, off, hA, by simpa [i64R] using hc 0 _ rfl, h1, h2⟩
theorem blocksR_len (ins : List In) (entries : List Nat) (tabs : List (List Nat)) (at_ : List Nat) : (blocksR ins entries tabs at_).1.length ≤ 256 := by
  unfold blocksR
  simp only []
  split
  · simp
  · split
    · simp
    · simp
      omega
theorem blocksR_succ {ins : List In} {entries : List Nat} {tabs : List (List Nat)} {at_ : List Nat} (h : ∀ t ∈ tabs, t.length ≤ 100) : ∀ x ∈ (blocksR ins entries tabs at_).1, x.succ.length ≤ 1001 := by
  unfold blocksR
  simp only []
  split
  · simp
  · split
    · simp
    · intro x hx
      obtain ⟨a, -, rfl⟩ := List.mem_map.1 hx
      unfold blockBs succL
      simp only []
      refine Nat.le_trans (List.length_filter_le _ _) ?_
      rw [List.length_append]
      have h1 : ∀ i, (tgtI tabs at_ i).length ≤ 1000 := fun i => by
        unfold tgtI
        split
        · simp
        · split
          · exact tab_len (fun t ht => Nat.le_trans (h t ht) (by omega)) at_ i.addr
          · simp
      have := h1 (((blkFrom ins (leadL ins entries tabs at_) a).getLast?).getD In.zero)
      split <;> simp <;> omega
theorem predN_prefix (l : List Bs) (t : Nat) : ∀ (d k : Nat), predN l t k <+: predN l t (k + d)
  | 0, k => List.prefix_rfl
  | d + 1, k => by
    refine (predN_prefix l t d k).trans ?_
    show predN l t (k + d) <+: predN l t (k + d + 1)
    rw [show predN l t (k + d + 1) = (match l[k + d]? with | none => predN l t (k + d) | some x => if x.succ.contains t then predN l t (k + d) ++ [((k + d : Nat) : Int)] else predN l t (k + d)) from rfl]
    split
    · exact List.prefix_rfl
    · split
      · exact List.prefix_append _ _
      · exact List.prefix_rfl
theorem predN_get {l : List Bs} {t k : Nat} {x : Bs} (hk : l[k]? = some x) (h : x.succ.contains t = true) : (predN l t l.length)[(predN l t k).length]? = some (k : Int) := by
  have hlt := (List.getElem?_eq_some_iff.1 hk).1
  have h1 := predN_prefix l t (l.length - (k + 1)) (k + 1)
  rw [show k + 1 + (l.length - (k + 1)) = l.length by omega, predN_hit hk h] at h1
  obtain ⟨r, hr⟩ := h1
  rw [← hr, List.append_assoc, List.getElem?_append_right (Nat.le_refl _), Nat.sub_self]
  rfl

set_option maxHeartbeats 4000000 in
theorem edges_any (w : World) (A E U B T Q : Option Addr) (n c ne ce nu cu nb cb nt ct nq cq : Nat) (ins : List In) (entries : List Nat) (tabs : List (List Nat)) (at_ : List Nat) (hi : Sl insR w All (.slice A n c) ins) (he : Sl u32R w All (.slice E ne ce) entries)
    (ht : Sl u32sR w All (.slice T nt ct) tabs) (hq : Sl u32R w All (.slice Q nq cq) at_) (k : Int) :
    Calls Try.prog 5 #[.agg #[.slice A n c, .slice E ne ce, .slice U nu cu, .slice B nb cb], .slice T nt ct, .slice Q nq cq, .int .i64 k] w (OneBool w true) := by
  obtain ⟨W0, hW0⟩ : ∃ W0, w.alloc (.cells #[.slice A n c, .slice E ne ce, .slice U nu cu, .slice B nb cb] 25) = W0 := ⟨_, rfl⟩
  have hE : Ext w W0 := by rw [← hW0]; exact (Ext.refl w).alloc _
  have q0 : W0.cell? ⟨w.heap.size, 0, none⟩ = some (.slice A n c) := by rw [← hW0]; simp [go_sem]
  have q1 : W0.cell? ⟨w.heap.size, 1, none⟩ = some (.slice E ne ce) := by rw [← hW0]; simp [go_sem]
  have q2 : W0.cell? ⟨w.heap.size, 2, none⟩ = some (.slice U nu cu) := by rw [← hW0]; simp [go_sem]
  have q3 : W0.cell? ⟨w.heap.size, 3, none⟩ = some (.slice B nb cb) := by rw [← hW0]; simp [go_sem]
  have HLG := hid (fun W (h : Ext w W) => large_any W A E U B T n c ne ce nu cu nb cb nt ct tabs (ht.ext h))
  have hq9 : nq ≤ 9223372036854775807 := Nat.le_trans hq.cap.1 hq.cap.2
  have HBL := hid (fun W (h : Ext w W) (hn : n ≤ 600) (hne : ne ≤ 600) (htl : ∀ t ∈ tabs, t.length ≤ 100) => cblocks_any W A E U B T Q n c ne ce nu cu nb cb nt ct nq cq ins entries tabs at_ (hi.ext h) (he.ext h) (ht.ext h) (hq.ext h) hn hne hq9 (fun t ht => Nat.le_trans (htl t ht) (by omega)))
  obtain ⟨G, hG⟩ : ∃ G, largeB n ne nt tabs = G := ⟨_, rfl⟩
  have HG := hid hG
  rw [hG] at HLG
  have HE := hid hE
  clear hi he ht hq hq9 hE hG
  go_enter Try.func5, Try.ntmps5
  go_wp2_with fail
  refine (HLG.out W0 HE.out).mono ?_
  rintro e w1 ⟨rfl, hx1⟩
  have q0 := hx1.cell q0
  have q1 := hx1.cell q1
  have q2 := hx1.cell q2
  have q3 := hx1.cell q3
  have HX1 := hid (HE.out.trans hx1)
  clear hx1 hW0
  cases G with
  | true =>
    go_wp2_with fail
    refine (example_any _).mono ?_
    rintro e wz ⟨rfl, hxz⟩
    have HXZ := hid hxz; clear hxz
    go_wp2
    go_ret
    exact ⟨rfl, HX1.out.trans HXZ.out⟩
  | false =>
    obtain ⟨hs1, hs2, -, hs3⟩ := largeB_small HG.out
    have HB := hid (HBL.out w1 HX1.out hs1 hs2 hs3)
    have HLEN := hid (blocksR_len ins entries tabs at_)
    have HSU := hid (blocksR_succ (ins := ins) (entries := entries) (at_ := at_) hs3)
    clear hs1 hs2 hs3
    obtain ⟨⟨l, er⟩, hl⟩ : ∃ r, blocksR ins entries tabs at_ = r := ⟨_, rfl⟩
    rw [hl] at HB HLEN HSU
    simp only [] at HB HLEN HSU
    clear hl
    go_wp2_with fail
    refine (HB.out).mono ?_
    rintro e w2 ⟨hx2, AL, cL, rfl, hsL⟩
    simp only [] at hsL ⊢
    obtain ⟨N, hN⟩ : ∃ N, l.length = N := ⟨_, rfl⟩
    rw [hN] at hsL HLEN ⊢
    have HN := hid hN
    have HX2 := hid (HX1.out.trans hx2)
    have HSL := hid hsL
    have HCL := hid hsL.cap
    clear hx2 hsL q0 q1 q2 q3 hN
    by_cases her : er = 0
    case neg =>
      have n1 : ((er : Int) != 0) = true := by simpa using her
      go_wp2_with fail
      refine (example_any _).mono ?_
      rintro e wz ⟨rfl, hxz⟩
      have HXZ := hid hxz; clear hxz
      go_wp2
      go_ret
      exact ⟨rfl, HX2.out.trans HXZ.out⟩
    case pos =>
    subst her
    by_cases hk0 : k < 0
    · go_wp2_with fail
      refine (example_any _).mono ?_
      rintro e wz ⟨rfl, hxz⟩
      have HXZ := hid hxz; clear hxz
      go_wp2
      go_ret
      exact ⟨rfl, HX2.out.trans HXZ.out⟩
    obtain ⟨q, rfl⟩ : ∃ q : Nat, k = q := ⟨k.toNat, by omega⟩
    by_cases hk1 : N ≤ q
    · go_wp2_with fail
      refine (example_any _).mono ?_
      rintro e wz ⟨rfl, hxz⟩
      have HXZ := hid hxz; clear hxz
      go_wp2
      go_ret
      exact ⟨rfl, HX2.out.trans HXZ.out⟩
    obtain ⟨z, hz⟩ : ∃ z, l[q]? = some z := ⟨_, List.getElem?_eq_getElem (by have := HN.out; omega)⟩
    have HPR := hid (preds_any w2 AL N cL l HSL.out (by have := HLEN.out; omega) (q : Int))
    have hpe : predsOf l (q : Int) = predN l z.addr N := by
      unfold predsOf
      rw [if_neg (by omega), Int.toNat_natCast, hz, HN.out]
    rw [hpe] at HPR
    have HZ := hid hz
    have HQN := hid (show q < N by omega)
    obtain ⟨m, hm⟩ : ∃ m, predN l z.addr N = m := ⟨_, rfl⟩
    rw [hm] at HPR
    have HM := hid hm
    clear hpe hz hm
    go_wp2_with fail
    refine (HPR.out).mono ?_
    rintro e w3 ⟨hx3, AP, cP, rfl, hsP⟩
    obtain ⟨M, hM⟩ : ∃ M, m.length = M := ⟨_, rfl⟩
    rw [hM] at hsP ⊢
    have HMM := hid hM
    have HSP := hid hsP
    have HSL3 := hid (HSL.out.ext hx3)
    have HX3 := hid (HX2.out.trans hx3)
    have HMB : Hid (M ≤ N) := hid (by rw [← hM, ← HM.out]; exact predN_len _ _ _)
    have hcp := hsP.cap
    have HNL := hid (show N ≤ 256 from HLEN.out)
    clear hx3 hsP hM hk0 hk1
    go_wp2
    go_loopw [12, 13] (fun v i wr => ∃ j m1 : Nat, j ≤ N ∧ i = .int .i64 j ∧ v = .int .i64 m1 ∧ m1 ≤ j ∧ Hid ((predN l z.addr j).length = m1) ∧ Hid (Ext w3 wr)) (fun _ i _ => N - (intOf i).toNat)
    case atStart => exact ⟨0, 0, by omega, rfl, rfl, by omega, hid rfl, hid (Ext.refl _)⟩
    case round =>
      obtain ⟨j, m1, hj, rfl, rfl, hmj, HJ, HX⟩ := hrel
      have hN256 := HNL.out
      by_cases hjN : j < N
      · obtain ⟨x, hx⟩ : ∃ x, l[j]? = some x := ⟨_, List.getElem?_eq_getElem (by have := HN.out; omega)⟩
        obtain ⟨V, hV⟩ : ∃ V, V = wr := ⟨_, rfl⟩
        subst hV
        have hSV := HSL3.out.ext HX.out
        obtain ⟨b, off, A1, c1, A2, c2, A3, c3, rfl, -, hsu, -, -, -, -, -, -, p3, -⟩ := Sl.bs_at hSV hx
        obtain ⟨b', off', A1', c1', A2', c2', A3', c3', hA, -, -, -, -, -, z0, -, -, -, -⟩ := Sl.bs_at hSV HZ.out
        cases hA
        have hcs := hsu.cap
        have hlu := HSU.out x (List.mem_of_getElem? hx)
        have HXX := hid hx
        have HSX := hid hsu
        obtain ⟨S, hS⟩ : ∃ S, x.succ.length = S := ⟨_, rfl⟩
        rw [hS] at p3 hcs hlu HSX
        have HS := hid hS
        have P3 := hid p3
        have Z0 := hid z0
        have HQ := HQN.out
        clear hx hSV hsu hS p3 z0
        go_wp2
        go_loopw [14, 15] (fun g i wi => ∃ (p : Nat) (gb : Bool), p ≤ S ∧ g = .bool gb ∧ i = .int .i64 p ∧ Hid ((x.succ.take p).contains z.addr = gb) ∧ Hid (Ext V wi)) (fun _ i _ => S - (intOf i).toNat)
        case atStart => exact ⟨0, false, by omega, rfl, rfl, hid (by simp), hid (Ext.refl _)⟩
        case round =>
          obtain ⟨p, gb, hp, rfl, rfl, HG2, HXV⟩ := hrel
          have p3 := HXV.out.cell P3.out
          have z0 := HXV.out.cell Z0.out
          by_cases hpS : p < S
          · obtain ⟨y, hy⟩ : ∃ y, x.succ[p]? = some y := ⟨_, List.getElem?_eq_getElem (by have := HS.out; omega)⟩
            obtain ⟨d, u, rfl, cy, hy32⟩ := (HSX.out.ext HXV.out).num_at hy
            have HSTEP : Hid ((x.succ.take (p + 1)).contains z.addr = (gb || decide (y = z.addr))) := hid (by rw [take_snoc' hy, List.contains_append, HG2.out]; congr 1; rw [Bool.eq_iff_iff]; simp; exact eq_comm)
            clear hy
            cases gb with
            | true =>
              go_wp2
              go_quiet (fail)
              go_wp2
              first
                | go_roundw
                | refine ⟨?rel, ?measure⟩
              case rel => exact ⟨p + 1, true, by omega, rfl, by go_num, hid (by rw [HSTEP.out]; rfl), hid (HXV.out.drewN _)⟩
              case measure => simp [intOf]; omega
            | false =>
              by_cases hyz : y = z.addr
              · have n1 : ((y : Int) == (z.addr : Int)) = true := by simp [hyz]
                have HYZ := hid hyz
                clear hyz
                go_wp2
                go_quiet (fail)
                go_wp2
                first
                  | go_roundw
                  | refine ⟨?rel, ?measure⟩
                case rel => exact ⟨p + 1, true, by omega, rfl, by go_num, hid (by rw [HSTEP.out, HYZ.out]; simp), hid (HXV.out.drewN _)⟩
                case measure => simp [intOf]; omega
              · have n1 : ((y : Int) == (z.addr : Int)) = false := by simp; omega
                have HYZ := hid hyz
                clear hyz
                go_wp2
                go_quiet (fail)
                go_wp2
                first
                  | go_roundw
                  | refine ⟨?rel, ?measure⟩
                case rel => exact ⟨p + 1, false, by omega, rfl, by go_num, hid (by rw [HSTEP.out]; simp [HYZ.out]), hid (HXV.out.drewN _)⟩
                case measure => simp [intOf]; omega
          · obtain rfl : p = S := by omega
            have hg : x.succ.contains z.addr = gb := by
              have h := HG2.out
              rwa [List.take_of_length_le (by have := HS.out; omega)] at h
            have HGG := hid hg
            have HXW := hid (HX.out.trans HXV.out)
            clear hg
            cases gb with
            | false =>
              go_wp2
              first
                | go_roundw
                | refine ⟨?rel, ?measure⟩
              case rel => exact ⟨j + 1, m1, by omega, by go_num, rfl, by omega, hid (by rw [predN_miss HXX.out HGG.out]; exact HJ.out), HXW⟩
              case measure => simp [intOf]; omega
            | true =>
              have hget : m[m1]? = some (j : Int) := by
                have h := predN_get HXX.out HGG.out
                rwa [HJ.out, HN.out, HM.out] at h
              obtain ⟨d, u, rfl, cy, -⟩ := i64_at (HSP.out.ext HXW.out) hget
              have hlt : m1 < M := by have := (List.getElem?_eq_some_iff.1 hget).1; have := HMM.out; omega
              clear hget
              go_wp2
              first
                | go_roundw
                | refine ⟨?rel, ?measure⟩
              case rel => exact ⟨j + 1, m1 + 1, by omega, by go_num, by go_num, by omega, hid (by rw [predN_hit HXX.out HGG.out, List.length_append, HJ.out]; rfl), HXW⟩
              case measure => simp [intOf]; omega
      · obtain rfl : j = N := by omega
        have hmm : m1 = M := by rw [← HJ.out, HM.out, HMM.out]
        subst hmm
        have HX9 := hid (HX3.out.trans HX.out)
        go_wp2_with fail
        refine (example_any _).mono ?_
        rintro e wz ⟨rfl, hxz⟩
        have HXZ := hid hxz; clear hxz
        go_wp2
        go_ret
        exact ⟨by simp, HX9.out.trans HXZ.out⟩
end Go.Proofs.Ytolbnhkdpbdhhaa
