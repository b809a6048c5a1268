/- cfg.formed, cfg.Check; decompilerref17.wrong, Check. decompilerref17.wrong. cfg.Check and decompilerref17.Check; CfgChecks: the law's walk. CfgChecks: Check returns what the reference returns: the law's walk. -/
import Derived.Deep.CutRange
import Derived.Test.YtnlmhnbogleijaaDoorIsdm
import Derived.Test.YtnlmhnbogleijaaDoorIsam
import Derived.Test.YtnlmhnbogleijaaDoorCfgm
import Derived.Test.YtnlmhnbogleijaaDoorLasm
namespace Go.Proofs.YtnlmhnbogleijaaDoor
open Go.RowKit Go.Deco
set_option linter.unusedSimpArgs false
set_option linter.unusedVariables false
set_option maxRecDepth 100000

/-- Instructions follow each other from an address to another. -/
def chainB (e : Nat) : List In → Nat → Bool
  | [], a => decide (a = e)
  | i :: r, a => decide (i.addr = a) && ((r.isEmpty || !stopsI i) && chainB e r (nextI i))
def formedB (b : Bs) : Bool := !b.ins.isEmpty && chainB b.end_ b.ins b.addr
theorem drop_cons {E : Type} {l : List E} {k : Nat} {x : E} (h : l[k]? = some x) : l.drop k = x :: l.drop (k + 1) := by
  obtain ⟨hlt, rfl⟩ := List.getElem?_eq_some_iff.1 h
  exact List.drop_eq_getElem_cons hlt
theorem drop_empty {E : Type} {l : List E} {k n : Nat} (hn : l.length = n) (h : k < n) : (l.drop (k + 1)).isEmpty = decide (¬ k + 1 < n) := by
  rw [Bool.eq_iff_iff]
  simp
  omega

set_option maxHeartbeats 4000000 in
theorem formed_any (w : World) (x : Bs) (A1 A2 A3 : Option Addr) (n c1 n2 c2 n3 c3 : Nat) (hi : Sl insR w All (.slice A1 n c1) x.ins) :
    Calls Tryd.prog 33 #[.agg #[.int .u32 x.addr, .int .u32 x.end_, .slice A1 n c1, .slice A2 n2 c2, .slice A3 n3 c3]] w fun e w' => e = .returned (.bool (formedB x)) ∧ Ext w w' := by
  obtain ⟨W0, hW0⟩ : ∃ W0, w.alloc (.cells #[.int .u32 x.addr, .int .u32 x.end_, .slice A1 n c1, .slice A2 n2 c2, .slice A3 n3 c3] 46) = W0 := ⟨_, rfl⟩
  have hE : Ext w W0 := by rw [← hW0]; exact (Ext.refl w).alloc _
  have p0 : W0.cell? ⟨w.heap.size, 0, none⟩ = some (.int .u32 x.addr) := by rw [← hW0]; simp [go_sem]
  have p1 : W0.cell? ⟨w.heap.size, 1, none⟩ = some (.int .u32 x.end_) := by rw [← hW0]; simp [go_sem]
  have p2 : W0.cell? ⟨w.heap.size, 2, none⟩ = some (.slice A1 n c1) := by rw [← hW0]; simp [go_sem]
  have HE := hid hE
  have HLN := hid hi.len
  have HS := hid (hi.ext hE)
  have HC := hid hi.cap
  have P0 := hid p0
  have P1 := hid p1
  have P2 := hid p2
  obtain ⟨r, hr⟩ : ∃ r, formedB x = r := ⟨_, rfl⟩
  rw [hr]
  have HR := hid hr
  clear hi hE hr
  go_enter Tryd.func33, Tryd.ntmps33
  by_cases h0 : n = 0
  · have hr : Hid (r = false) := hid (by
      have e : x.ins = [] := List.eq_nil_of_length_eq_zero (by have := HLN.out; omega)
      rw [← HR.out, formedB, e]; rfl)
    subst h0
    go_wp2
    go_quiet (fail)
    go_wp2
    go_ret
    rw [hr.out]
    exact ⟨rfl, HE.out.drewN _⟩
  have hpos : 0 < n := by omega
  have hpos' : (0 : Int) < (n : Int) := by omega
  have g0 : ((n : Int) == 0) = false := by simp; omega
  clear h0
  obtain ⟨x0, hx0⟩ : ∃ x0, x.ins[0]? = some x0 := ⟨_, List.getElem?_eq_getElem (by have := HLN.out; omega)⟩
  obtain ⟨b, off, rfl, -, a0, -⟩ := Sl.in_at HS.out hx0
  rw [Nat.zero_mul, Nat.add_zero] at a0
  have hchain : r = chainB x.end_ (x.ins.drop 0) x.addr := by
    rw [← HR.out, formedB, drop_cons hx0]
    have : x.ins.isEmpty = false := by
      rw [Bool.eq_false_iff]
      intro h
      rw [List.isEmpty_iff] at h
      rw [h] at hx0
      cases hx0
    rw [this, ← drop_cons hx0, List.drop_zero]
    rfl
  by_cases hq : x0.addr = x.addr
  case neg =>
    have hr : Hid (r = false) := hid (by rw [hchain, drop_cons hx0, chainB]; simp [hq])
    have n1 : ((x0.addr : Int) != (x.addr : Int)) = true := by simp; omega
    clear hq hchain hx0
    go_wp2
    go_quiet (fail)
    go_wp2
    go_ret
    rw [hr.out]
    exact ⟨rfl, HE.out.drewN _⟩
  case pos =>
  have HCH := hid hchain
  have n1 : ((x0.addr : Int) != (x.addr : Int)) = false := by simp; omega
  clear hq hchain hx0
  go_wp2
  go_quiet (fail)
  have HX0 := hid ((Ext.refl W0).drewN 1)
  go_wp2
  clear hW0 n1 a0 p0 p1 p2
  go_loopw [3, 25] (fun a i wr => ∃ (k v : Nat), k ≤ n ∧ i = .int .i64 k ∧ a = .int .u32 v ∧ Hid (Ext W0 wr) ∧ Hid (r = chainB x.end_ (x.ins.drop k) v)) (fun _ i _ => n - (intOf i).toNat)
  case atStart => exact ⟨0, x.addr, by omega, rfl, rfl, hid ((Ext.refl W0).drewN _), HCH⟩
  case round =>
    obtain ⟨k, v, hk, rfl, rfl, HX, HK⟩ := hrel
    have p0 := HX.out.cell P0.out
    have p1 := HX.out.cell P1.out
    have p2 := HX.out.cell P2.out
    by_cases h1 : k < n
    · obtain ⟨y, hy⟩ : ∃ y, x.ins[k]? = some y := ⟨_, List.getElem?_eq_getElem (by have := HLN.out; omega)⟩
      obtain ⟨b', off', hA, hok, a0, a1, a2, a3, a4, a5, a6, a7, a8⟩ := Sl.in_at (HS.out.ext HX.out) hy
      cases hA
      have HOK := hid hok
      have hstep : r = (decide (y.addr = v) && ((decide (¬ k + 1 < n) || !stopsI y) && chainB x.end_ (x.ins.drop (k + 1)) (nextI y))) := by
        rw [HK.out, drop_cons hy, chainB, drop_empty HLN.out.symm h1]
      have HST := hid hstep
      obtain ⟨W1, hW1⟩ : ∃ W1, wr.alloc (.cells #[.int .u32 y.addr, .int .u32 y.imm, .int .i64 y.op, .int .i64 y.form, .int .i64 y.width, .int .i64 y.cc, .int .i64 y.a, .int .i64 y.b, .int .i64 y.size] 45) = W1 := ⟨_, rfl⟩
      have hE1 : Ext wr W1 := by rw [← hW1]; exact (Ext.refl wr).alloc _
      have hB1 : Box9 W1 wr.heap.size y := by rw [← hW1]; exact Box9.new wr y _
      have HX1 := hid (HX.out.trans hE1)
      have HB1 := hid hB1
      obtain ⟨c0, c1', c2', c3', c4, c5, c6, c7, c8⟩ := hB1
      have p2' := hE1.cell p2
      clear hok hy hstep hE1 p0 p1
      have HEN := hid (fun W => cfends_any W y)
      have HNX := hid (fun W => isanext_any W y HOK.out)
      have e9 : inV y = .agg #[.int .u32 y.addr, .int .u32 y.imm, .int .i64 y.op, .int .i64 y.form, .int .i64 y.width, .int .i64 y.cc, .int .i64 y.a, .int .i64 y.b, .int .i64 y.size] := rfl
      rw [e9] at HEN HNX
      clear e9
      by_cases hq : y.addr = v
      case neg =>
        have hr : Hid (r = false) := hid (by rw [HST.out]; simp [hq])
        have n1 : ((y.addr : Int) != (v : Int)) = true := by simp; omega
        clear hq
        go_wp2
        go_ret
        rw [hr.out]
        exact ⟨rfl, HE.out.trans HX1.out⟩
      case pos =>
      subst hq
      have n1 : ((y.addr : Int) != (y.addr : Int)) = false := by simp
      have hw1 : IntKind.i64.wrap ((k : Int) + 1) = (k : Int) + 1 := IntWalk.i64_in _ (by have := HC.out; omega)
      by_cases h2 : k + 1 < n
      · have h2' : (k : Int) + 1 < (n : Int) := by omega
        have HH2 := hid h2
        obtain ⟨s, hs⟩ : ∃ s, stopsI y = s := ⟨_, rfl⟩
        rw [hs] at HEN
        have HSS := hid hs
        clear hs h2
        go_wp2_with fail
        refine (HEN.out _).mono ?_
        rintro e w2 ⟨rfl, hx2⟩
        cases s with
        | true =>
          have hr : Hid (r = false) := hid (by rw [HST.out, HSS.out]; simp [HH2.out])
          have HX2 := hid (HX1.out.trans hx2)
          clear hx2 c0 c1' c2' c3' c4 c5 c6 c7 c8
          go_wp2
          go_ret
          rw [hr.out]
          exact ⟨rfl, HE.out.trans HX2.out⟩
        | false =>
          have HR2 : Hid (r = chainB x.end_ (x.ins.drop (k + 1)) (nextI y)) := hid (by rw [HST.out, HSS.out]; simp)
          have HX2 := hid (HX1.out.trans hx2)
          have c0 := hx2.cell c0
          have c1' := hx2.cell c1'
          have c2' := hx2.cell c2'
          have c3' := hx2.cell c3'
          have c4 := hx2.cell c4
          have c5 := hx2.cell c5
          have c6 := hx2.cell c6
          have c7 := hx2.cell c7
          have c8 := hx2.cell c8
          clear hx2
          go_wp2_with fail
          refine (HNX.out _).mono ?_
          rintro e w3 ⟨rfl, hx3⟩
          have HX3 := hid (HX2.out.trans hx3)
          clear hx3 c0 c1' c2' c3' c4 c5 c6 c7 c8
          go_wp2
          first
            | go_roundw
            | refine ⟨?rel, ?measure⟩
          case rel => exact ⟨k + 1, nextI y, by omega, by go_num, rfl, HX3, HR2⟩
          case measure => simp [intOf]; omega
      · have h2' : ¬ ((k : Int) + 1 < (n : Int)) := by omega
        have HR2 : Hid (r = chainB x.end_ (x.ins.drop (k + 1)) (nextI y)) := hid (by rw [HST.out]; simp [h2])
        have HX2 := HX1
        clear h2
        go_wp2_with fail
        refine (HNX.out _).mono ?_
        rintro e w3 ⟨rfl, hx3⟩
        have HX3 := hid (HX2.out.trans hx3)
        clear hx3 c0 c1' c2' c3' c4 c5 c6 c7 c8
        go_wp2
        first
          | go_roundw
          | refine ⟨?rel, ?measure⟩
        case rel => exact ⟨k + 1, nextI y, by omega, by go_num, rfl, HX3, HR2⟩
        case measure => simp [intOf]; omega
    · obtain rfl : k = n := by omega
      have hr : Hid (r = decide (v = x.end_)) := hid (by rw [HK.out, List.drop_of_length_le (by have := HLN.out; omega)]; rfl)
      by_cases hv : v = x.end_
      · have n1 : ((v : Int) == (x.end_ : Int)) = true := by simp [hv]
        have HV := hid hv
        clear hv
        go_wp2
        go_ret
        rw [hr.out]
        exact ⟨ret_bool (by simp [HV.out]), HE.out.trans HX.out⟩
      · have n1 : ((v : Int) == (x.end_ : Int)) = false := by simp; omega
        have HV := hid hv
        clear hv
        go_wp2
        go_ret
        rw [hr.out]
        exact ⟨ret_bool (by simp [HV.out]), HE.out.trans HX.out⟩
end Go.Proofs.YtnlmhnbogleijaaDoor

namespace Go.Proofs.YtnlmhnbogleijaaDoor
open Go.RowKit Go.Deco
set_option linter.unusedSimpArgs false
set_option linter.unusedVariables false
set_option maxRecDepth 100000

end Go.Proofs.YtnlmhnbogleijaaDoor

namespace Go.Proofs.YtnlmhnbogleijaaDoor
open Go.RowKit Go.Deco
set_option linter.unusedSimpArgs false
set_option linter.unusedVariables false
set_option maxRecDepth 100000

/-- The error of block x with the blocks ahead of it. -/
def errAt (pre : List Bs) (x : Bs) : Nat := if formedB x = false then 4 else if pre.any (eqBs x.addr) = true then 8 else 0
def chkGo : List Bs → List Bs → Nat
  | _, [] => 0
  | pre, x :: r => if errAt pre x = 0 then chkGo (pre ++ [x]) r else errAt pre x
def checkBs (l : List Bs) : Nat := if 256 < l.length then 6 else chkGo [] l
theorem chk_step {l : List Bs} {k : Nat} {x : Bs} (h : l[k]? = some x) : chkGo (l.take k) (l.drop k) = if errAt (l.take k) x = 0 then chkGo (l.take (k + 1)) (l.drop (k + 1)) else errAt (l.take k) x := by
  rw [drop_cons h, chkGo, take_snoc' h]
theorem info_bas2 : (Tryd.prog.info? 46).map (fun i => (i.zero, i.size, i.bytes)) = some (some (.agg #[.int .u32 0, .int .u32 0, .slice none 0 0, .slice none 0 0, .slice none 0 0]), 5, 80) := by kernel_rfl

set_option maxHeartbeats 4000000 in
theorem check_any (w : World) (A : Option Addr) (n c : Nat) (l : List Bs) (hl : Sl bsR w All (.slice A n c) l) : Calls Tryd.prog 22 #[.slice A n c] w fun e w' => e = .returned (.int .i64 (checkBs l)) ∧ Ext w w' := by
  obtain ⟨i0, hi, hz0, hz1, hz2⟩ := info_parts info_bas2
  have HI := hid hi
  have HZ1 := hid hz1
  clear hi hz0 hz1 hz2
  have HLN := hid hl.len
  have hcap := hl.cap
  have HL := hid hl
  obtain ⟨r, hr⟩ : ∃ r, checkBs l = r := ⟨_, rfl⟩
  rw [hr]
  have HR := hid hr
  clear hl hr
  go_enter Tryd.func22, Tryd.ntmps22
  by_cases hbig : 256 < n
  · have hr : Hid (r = 6) := hid (by rw [← HR.out, checkBs, if_pos (by rw [← HLN.out]; exact hbig)])
    go_wp2
    go_ret
    rw [hr.out]
    exact ⟨rfl, Ext.refl _⟩
  have HR2 : Hid (r = chkGo (l.take 0) (l.drop 0)) := hid (by rw [← HR.out, checkBs, if_neg (by rw [← HLN.out]; exact hbig)]; rfl)
  go_wp2
  go_loopw [10] (fun i wr => ∃ k : Nat, k ≤ n ∧ i = .int .i64 k ∧ Hid (Ext w wr) ∧ Hid (r = chkGo (l.take k) (l.drop k))) (fun i _ => n - (intOf i).toNat)
  case atStart => exact ⟨0, by omega, rfl, hid (Ext.refl _), HR2⟩
  case round =>
    obtain ⟨k, hk, rfl, HX, HK⟩ := hrel
    by_cases h1 : k < n
    · obtain ⟨x, hx⟩ : ∃ x, l[k]? = some x := ⟨_, List.getElem?_eq_getElem (by have := HLN.out; omega)⟩
      obtain ⟨b, off, A1, c1, A2, c2, A3, c3, rfl, hin, -, -, -, -, e0, e1, e2, e3, e4⟩ := Sl.bs_at (HL.out.ext HX.out) hx
      have hst := chk_step hx
      rw [← HK.out] at hst
      have HST := hid hst
      obtain ⟨W1, hW1⟩ : ∃ W1, wr.alloc (.cells #[.int .u32 x.addr, .int .u32 x.end_, .slice A1 x.ins.length c1, .slice A2 x.succ.length c2, .slice A3 x.calls.length c3] 46) = W1 := ⟨_, rfl⟩
      have hE1 : Ext wr W1 := by rw [← hW1]; exact (Ext.refl wr).alloc _
      have p0 : W1.cell? ⟨wr.heap.size, 0, none⟩ = some (.int .u32 x.addr) := by rw [← hW1]; simp [go_sem]
      have p1 : W1.cell? ⟨wr.heap.size, 1, none⟩ = some (.int .u32 x.end_) := by rw [← hW1]; simp [go_sem]
      have p2 : W1.cell? ⟨wr.heap.size, 2, none⟩ = some (.slice A1 x.ins.length c1) := by rw [← hW1]; simp [go_sem]
      have p3 : W1.cell? ⟨wr.heap.size, 3, none⟩ = some (.slice A2 x.succ.length c2) := by rw [← hW1]; simp [go_sem]
      have p4 : W1.cell? ⟨wr.heap.size, 4, none⟩ = some (.slice A3 x.calls.length c3) := by rw [← hW1]; simp [go_sem]
      have HF := hid (formed_any W1 x A1 A2 A3 x.ins.length c1 x.succ.length c2 x.calls.length c3 (hin.ext hE1))
      have HX1 := hid (HX.out.trans hE1)
      obtain ⟨f, hf⟩ : ∃ f, formedB x = f := ⟨_, rfl⟩
      rw [hf] at HF
      have HFF := hid hf
      clear hx hin hst hE1 hf
      go_wp2_with fail
      refine (HF.out).mono ?_
      rintro e w2 ⟨rfl, hx2⟩
      have HX2 := hid (HX1.out.trans hx2)
      have P0 := hid (hx2.cell p0)
      clear hx2 p0 p1 p2 p3 p4 e0 e1 e2 e3 e4 hW1
      cases f with
      | false =>
        have he : Hid (r = 4) := hid (by
          have h : errAt (l.take k) x = 4 := by rw [errAt, if_pos HFF.out]
          rw [HST.out, h]; rfl)
        go_wp2
        go_ret
        rw [he.out]
        exact ⟨rfl, HX2.out⟩
      | true =>
        have HCE := hid (fun A2 (h : Sl bsR w All (.slice A2 k c) (l.take k)) => containsEq_any w2 x.addr wr.heap.size P0.out All A2 k c (l.take k) (h.ext HX2.out))
        obtain ⟨g, hg⟩ : ∃ g, (l.take k).any (eqBs x.addr) = g := ⟨_, rfl⟩
        rw [hg] at HCE
        have HGG := hid hg
        clear hg
        go_wp2_with (first
          | ((with_reducible refine wpList_at_slice 30 (.tmp 18) none (some (.tmp 19)) rfl rfl ?_); refine wpList_to rfl 30 46 (.tmp 18) (.tmp 19) rfl Tryd.underlying30 i0 HI.out bsR HZ1.out rfl HL.out k rfl hk ?_; intro A4 hA4; have HA4 := hid hA4; clear hA4)
          | fail)
        refine (HCE.out A4 HA4.out).mono ?_
        rintro e w3 ⟨rfl, hx3⟩
        have HX3 := hid (HX2.out.trans hx3)
        clear hx3
        cases g with
        | true =>
          have he : Hid (r = 8) := hid (by
            have h : errAt (l.take k) x = 8 := by rw [errAt, if_neg (by rw [HFF.out]; simp), if_pos HGG.out]
            rw [HST.out, h]; rfl)
          go_wp2
          go_ret
          rw [he.out]
          exact ⟨rfl, HX3.out⟩
        | false =>
          have he : Hid (r = chkGo (l.take (k + 1)) (l.drop (k + 1))) := hid (by
            have h : errAt (l.take k) x = 0 := by rw [errAt, if_neg (by rw [HFF.out]; simp), if_neg (by rw [HGG.out]; simp)]
            rw [HST.out, if_pos h])
          go_wp2
          first
            | go_roundw
            | refine ⟨?rel, ?measure⟩
          case rel => exact ⟨k + 1, by omega, by go_num, HX3, he⟩
          case measure => simp [intOf]; omega
    · obtain rfl : k = n := by omega
      have he : Hid (r = 0) := hid (by rw [HK.out, List.drop_of_length_le (by have := HLN.out; omega)]; rfl)
      go_wp2
      go_ret
      rw [he.out]
      exact ⟨rfl, HX.out⟩

end Go.Proofs.YtnlmhnbogleijaaDoor

namespace Go.Proofs.YtnlmhnbogleijaaDoor
open Go.RowKit Go.Deco
set_option linter.unusedSimpArgs false
set_option linter.unusedVariables false
set_option maxRecDepth 100000

end Go.Proofs.YtnlmhnbogleijaaDoor
