/- cfg.formed, cfg.Check; decompilerref17.wrong, Check. decompilerref17.wrong. cfg.Check and decompilerref17.Check; CfgChecks: the law's walk. CfgChecks: Check returns what the reference returns: the law's walk. -/
import Derived.Test.YtnlmhnbogleijaaGreatDoorR3Cm
import Derived.Test.YtnlmhnbogleijaaGreatDoorCfgRm
import Derived.Deep.CutRange
import Derived.Test.YtnlmhnbogleijaaGreatDoorIsdm
import Derived.Test.YtnlmhnbogleijaaGreatDoorIsam
import Derived.Test.YtnlmhnbogleijaaGreatDoorCfgm
import Derived.Test.YtnlmhnbogleijaaGreatDoorLasm
namespace Go.Proofs.YtnlmhnbogleijaaGreatDoor
open Go.RowKit Go.Deco
set_option linter.unusedSimpArgs false
set_option linter.unusedVariables false
set_option maxRecDepth 100000

/-- Instructions follow each other from an address to another. -/
def chainB (e : Nat) : List In → Nat → Bool
  | [], a => decide (a = e)
  | i :: r, a => decide (i.addr = a) && ((r.isEmpty || !stopsI i) && chainB e r (nextI i))
def formedB (b : Bs) : Bool := !b.ins.isEmpty && chainB b.end_ b.ins b.addr
theorem drop_cons {E : Type} {l : List E} {k : Nat} {x : E} (h : l[k]? = some x) : l.drop k = x :: l.drop (k + 1) := by
  obtain ⟨hlt, rfl⟩ := List.getElem?_eq_some_iff.1 h
  exact List.drop_eq_getElem_cons hlt
theorem drop_empty {E : Type} {l : List E} {k n : Nat} (hn : l.length = n) (h : k < n) : (l.drop (k + 1)).isEmpty = decide (¬ k + 1 < n) := by
  rw [Bool.eq_iff_iff]
  simp
  omega

set_option maxHeartbeats 4000000 in
theorem formed_any (w : World) (x : Bs) (A1 A2 A3 : Option Addr) (n c1 n2 c2 n3 c3 : Nat) (hi : Sl insR w All (.slice A1 n c1) x.ins) :
    Calls Tryz.prog 30 #[.agg #[.int .u32 x.addr, .int .u32 x.end_, .slice A1 n c1, .slice A2 n2 c2, .slice A3 n3 c3]] w fun e w' => e = .returned (.bool (formedB x)) ∧ Ext w w' := by
  obtain ⟨W0, hW0⟩ : ∃ W0, w.alloc (.cells #[.int .u32 x.addr, .int .u32 x.end_, .slice A1 n c1, .slice A2 n2 c2, .slice A3 n3 c3] 55) = W0 := ⟨_, rfl⟩
  have hE : Ext w W0 := by rw [← hW0]; exact (Ext.refl w).alloc _
  have p0 : W0.cell? ⟨w.heap.size, 0, none⟩ = some (.int .u32 x.addr) := by rw [← hW0]; simp [go_sem]
  have p1 : W0.cell? ⟨w.heap.size, 1, none⟩ = some (.int .u32 x.end_) := by rw [← hW0]; simp [go_sem]
  have p2 : W0.cell? ⟨w.heap.size, 2, none⟩ = some (.slice A1 n c1) := by rw [← hW0]; simp [go_sem]
  have HE := hid hE
  have HLN := hid hi.len
  have HS := hid (hi.ext hE)
  have HC := hid hi.cap
  have P0 := hid p0
  have P1 := hid p1
  have P2 := hid p2
  obtain ⟨r, hr⟩ : ∃ r, formedB x = r := ⟨_, rfl⟩
  rw [hr]
  have HR := hid hr
  clear hi hE hr
  go_enter Tryz.func30, Tryz.ntmps30
  by_cases h0 : n = 0
  · have hr : Hid (r = false) := hid (by
      have e : x.ins = [] := List.eq_nil_of_length_eq_zero (by have := HLN.out; omega)
      rw [← HR.out, formedB, e]; rfl)
    subst h0
    go_wp2
    go_quiet (fail)
    go_wp2
    go_ret
    rw [hr.out]
    exact ⟨rfl, HE.out.drewN _⟩
  have hpos : 0 < n := by omega
  have hpos' : (0 : Int) < (n : Int) := by omega
  have g0 : ((n : Int) == 0) = false := by simp; omega
  clear h0
  obtain ⟨x0, hx0⟩ : ∃ x0, x.ins[0]? = some x0 := ⟨_, List.getElem?_eq_getElem (by have := HLN.out; omega)⟩
  obtain ⟨b, off, rfl, -, a0, -⟩ := Sl.in_at HS.out hx0
  rw [Nat.zero_mul, Nat.add_zero] at a0
  have hchain : r = chainB x.end_ (x.ins.drop 0) x.addr := by
    rw [← HR.out, formedB, drop_cons hx0]
    have : x.ins.isEmpty = false := by
      rw [Bool.eq_false_iff]
      intro h
      rw [List.isEmpty_iff] at h
      rw [h] at hx0
      cases hx0
    rw [this, ← drop_cons hx0, List.drop_zero]
    rfl
  by_cases hq : x0.addr = x.addr
  case neg =>
    have hr : Hid (r = false) := hid (by rw [hchain, drop_cons hx0, chainB]; simp [hq])
    have n1 : ((x0.addr : Int) != (x.addr : Int)) = true := by simp; omega
    clear hq hchain hx0
    go_wp2
    go_quiet (fail)
    go_wp2
    go_ret
    rw [hr.out]
    exact ⟨rfl, HE.out.drewN _⟩
  case pos =>
  have HCH := hid hchain
  have n1 : ((x0.addr : Int) != (x.addr : Int)) = false := by simp; omega
  clear hq hchain hx0
  go_wp2
  go_quiet (fail)
  have HX0 := hid ((Ext.refl W0).drewN 1)
  go_wp2
  clear hW0 n1 a0 p0 p1 p2
  go_loopw [3, 25] (fun a i wr => ∃ (k v : Nat), k ≤ n ∧ i = .int .i64 k ∧ a = .int .u32 v ∧ Hid (Ext W0 wr) ∧ Hid (r = chainB x.end_ (x.ins.drop k) v)) (fun _ i _ => n - (intOf i).toNat)
  case atStart => exact ⟨0, x.addr, by omega, rfl, rfl, hid ((Ext.refl W0).drewN _), HCH⟩
  case round =>
    obtain ⟨k, v, hk, rfl, rfl, HX, HK⟩ := hrel
    have p0 := HX.out.cell P0.out
    have p1 := HX.out.cell P1.out
    have p2 := HX.out.cell P2.out
    by_cases h1 : k < n
    · obtain ⟨y, hy⟩ : ∃ y, x.ins[k]? = some y := ⟨_, List.getElem?_eq_getElem (by have := HLN.out; omega)⟩
      obtain ⟨b', off', hA, hok, a0, a1, a2, a3, a4, a5, a6, a7, a8⟩ := Sl.in_at (HS.out.ext HX.out) hy
      cases hA
      have HOK := hid hok
      have hstep : r = (decide (y.addr = v) && ((decide (¬ k + 1 < n) || !stopsI y) && chainB x.end_ (x.ins.drop (k + 1)) (nextI y))) := by
        rw [HK.out, drop_cons hy, chainB, drop_empty HLN.out.symm h1]
      have HST := hid hstep
      obtain ⟨W1, hW1⟩ : ∃ W1, wr.alloc (.cells #[.int .u32 y.addr, .int .u32 y.imm, .int .i64 y.op, .int .i64 y.form, .int .i64 y.width, .int .i64 y.cc, .int .i64 y.a, .int .i64 y.b, .int .i64 y.size] 77) = W1 := ⟨_, rfl⟩
      have hE1 : Ext wr W1 := by rw [← hW1]; exact (Ext.refl wr).alloc _
      have hB1 : Box9 W1 wr.heap.size y := by rw [← hW1]; exact Box9.new wr y _
      have HX1 := hid (HX.out.trans hE1)
      have HB1 := hid hB1
      obtain ⟨c0, c1', c2', c3', c4, c5, c6, c7, c8⟩ := hB1
      have p2' := hE1.cell p2
      clear hok hy hstep hE1 p0 p1
      have HEN := hid (fun W => cfends_any W y)
      have HNX := hid (fun W => isanext_any W y HOK.out)
      have e9 : inV y = .agg #[.int .u32 y.addr, .int .u32 y.imm, .int .i64 y.op, .int .i64 y.form, .int .i64 y.width, .int .i64 y.cc, .int .i64 y.a, .int .i64 y.b, .int .i64 y.size] := rfl
      rw [e9] at HEN HNX
      clear e9
      by_cases hq : y.addr = v
      case neg =>
        have hr : Hid (r = false) := hid (by rw [HST.out]; simp [hq])
        have n1 : ((y.addr : Int) != (v : Int)) = true := by simp; omega
        clear hq
        go_wp2
        go_ret
        rw [hr.out]
        exact ⟨rfl, HE.out.trans HX1.out⟩
      case pos =>
      subst hq
      have n1 : ((y.addr : Int) != (y.addr : Int)) = false := by simp
      have hw1 : IntKind.i64.wrap ((k : Int) + 1) = (k : Int) + 1 := IntWalk.i64_in _ (by have := HC.out; omega)
      by_cases h2 : k + 1 < n
      · have h2' : (k : Int) + 1 < (n : Int) := by omega
        have HH2 := hid h2
        obtain ⟨s, hs⟩ : ∃ s, stopsI y = s := ⟨_, rfl⟩
        rw [hs] at HEN
        have HSS := hid hs
        clear hs h2
        go_wp2_with fail
        refine (HEN.out _).mono ?_
        rintro e w2 ⟨rfl, hx2⟩
        cases s with
        | true =>
          have hr : Hid (r = false) := hid (by rw [HST.out, HSS.out]; simp [HH2.out])
          have HX2 := hid (HX1.out.trans hx2)
          clear hx2 c0 c1' c2' c3' c4 c5 c6 c7 c8
          go_wp2
          go_ret
          rw [hr.out]
          exact ⟨rfl, HE.out.trans HX2.out⟩
        | false =>
          have HR2 : Hid (r = chainB x.end_ (x.ins.drop (k + 1)) (nextI y)) := hid (by rw [HST.out, HSS.out]; simp)
          have HX2 := hid (HX1.out.trans hx2)
          have c0 := hx2.cell c0
          have c1' := hx2.cell c1'
          have c2' := hx2.cell c2'
          have c3' := hx2.cell c3'
          have c4 := hx2.cell c4
          have c5 := hx2.cell c5
          have c6 := hx2.cell c6
          have c7 := hx2.cell c7
          have c8 := hx2.cell c8
          clear hx2
          go_wp2_with fail
          refine (HNX.out _).mono ?_
          rintro e w3 ⟨rfl, hx3⟩
          have HX3 := hid (HX2.out.trans hx3)
          clear hx3 c0 c1' c2' c3' c4 c5 c6 c7 c8
          go_wp2
          first
            | go_roundw
            | refine ⟨?rel, ?measure⟩
          case rel => exact ⟨k + 1, nextI y, by omega, by go_num, rfl, HX3, HR2⟩
          case measure => simp [intOf]; omega
      · have h2' : ¬ ((k : Int) + 1 < (n : Int)) := by omega
        have HR2 : Hid (r = chainB x.end_ (x.ins.drop (k + 1)) (nextI y)) := hid (by rw [HST.out]; simp [h2])
        have HX2 := HX1
        clear h2
        go_wp2_with fail
        refine (HNX.out _).mono ?_
        rintro e w3 ⟨rfl, hx3⟩
        have HX3 := hid (HX2.out.trans hx3)
        clear hx3 c0 c1' c2' c3' c4 c5 c6 c7 c8
        go_wp2
        first
          | go_roundw
          | refine ⟨?rel, ?measure⟩
        case rel => exact ⟨k + 1, nextI y, by omega, by go_num, rfl, HX3, HR2⟩
        case measure => simp [intOf]; omega
    · obtain rfl : k = n := by omega
      have hr : Hid (r = decide (v = x.end_)) := hid (by rw [HK.out, List.drop_of_length_le (by have := HLN.out; omega)]; rfl)
      by_cases hv : v = x.end_
      · have n1 : ((v : Int) == (x.end_ : Int)) = true := by simp [hv]
        have HV := hid hv
        clear hv
        go_wp2
        go_ret
        rw [hr.out]
        exact ⟨ret_bool (by simp [HV.out]), HE.out.trans HX.out⟩
      · have n1 : ((v : Int) == (x.end_ : Int)) = false := by simp; omega
        have HV := hid hv
        clear hv
        go_wp2
        go_ret
        rw [hr.out]
        exact ⟨ret_bool (by simp [HV.out]), HE.out.trans HX.out⟩
end Go.Proofs.YtnlmhnbogleijaaGreatDoor

namespace Go.Proofs.YtnlmhnbogleijaaGreatDoor
open Go.RowKit Go.Deco
set_option linter.unusedSimpArgs false
set_option linter.unusedVariables false
set_option maxRecDepth 100000

set_option maxHeartbeats 4000000 in
theorem wrong_any (w : World) (x : Bs) (A1 A2 A3 : Option Addr) (n c1 n2 c2 n3 c3 : Nat) (hi : Sl insR w All (.slice A1 n c1) x.ins) :
    Calls Tryz.prog 41 #[.agg #[.int .u32 x.addr, .int .u32 x.end_, .slice A1 n c1, .slice A2 n2 c2, .slice A3 n3 c3]] w fun e w' => e = .returned (.bool (!formedB x)) ∧ Ext w w' := by
  obtain ⟨W0, hW0⟩ : ∃ W0, w.alloc (.cells #[.int .u32 x.addr, .int .u32 x.end_, .slice A1 n c1, .slice A2 n2 c2, .slice A3 n3 c3] 46) = W0 := ⟨_, rfl⟩
  have hE : Ext w W0 := by rw [← hW0]; exact (Ext.refl w).alloc _
  have p0 : W0.cell? ⟨w.heap.size, 0, none⟩ = some (.int .u32 x.addr) := by rw [← hW0]; simp [go_sem]
  have p1 : W0.cell? ⟨w.heap.size, 1, none⟩ = some (.int .u32 x.end_) := by rw [← hW0]; simp [go_sem]
  have p2 : W0.cell? ⟨w.heap.size, 2, none⟩ = some (.slice A1 n c1) := by rw [← hW0]; simp [go_sem]
  have HE := hid hE
  have HLN := hid hi.len
  have HS := hid (hi.ext hE)
  have HC := hid hi.cap
  have P0 := hid p0
  have P1 := hid p1
  have P2 := hid p2
  obtain ⟨r, hr⟩ : ∃ r, formedB x = r := ⟨_, rfl⟩
  rw [hr]
  have HR := hid hr
  clear hi hE hr
  go_enter Tryz.func41, Tryz.ntmps41
  by_cases h0 : n = 0
  · have hr : Hid (r = false) := hid (by
      have e : x.ins = [] := List.eq_nil_of_length_eq_zero (by have := HLN.out; omega)
      rw [← HR.out, formedB, e]; rfl)
    subst h0
    go_wp2
    go_quiet (fail)
    go_wp2
    go_ret
    rw [hr.out]
    exact ⟨rfl, HE.out.drewN _⟩
  have hpos : 0 < n := by omega
  have hpos' : (0 : Int) < (n : Int) := by omega
  have g0 : ((n : Int) == 0) = false := by simp; omega
  clear h0
  obtain ⟨x0, hx0⟩ : ∃ x0, x.ins[0]? = some x0 := ⟨_, List.getElem?_eq_getElem (by have := HLN.out; omega)⟩
  obtain ⟨b, off, rfl, -, a0, -⟩ := Sl.in_at HS.out hx0
  rw [Nat.zero_mul, Nat.add_zero] at a0
  have hchain : r = chainB x.end_ (x.ins.drop 0) x.addr := by
    rw [← HR.out, formedB, drop_cons hx0]
    have : x.ins.isEmpty = false := by
      rw [Bool.eq_false_iff]
      intro h
      rw [List.isEmpty_iff] at h
      rw [h] at hx0
      cases hx0
    rw [this, ← drop_cons hx0, List.drop_zero]
    rfl
  by_cases hq : x0.addr = x.addr
  case neg =>
    have hr : Hid (r = false) := hid (by rw [hchain, drop_cons hx0, chainB]; simp [hq])
    have n1 : ((x0.addr : Int) != (x.addr : Int)) = true := by simp; omega
    clear hq hchain hx0
    go_wp2
    go_quiet (fail)
    go_wp2
    go_ret
    rw [hr.out]
    exact ⟨rfl, HE.out.drewN _⟩
  case pos =>
  have HCH : Hid (x.ins[0]? = some x0 ∧ r = chainB x.end_ (x.ins.drop 0) x0.addr) := hid ⟨hx0, by rw [hq]; exact hchain⟩
  have n1 : ((x0.addr : Int) != (x.addr : Int)) = false := by simp; omega
  clear hq hchain hx0
  go_wp2
  go_quiet (fail)
  go_wp2
  clear hW0 n1 a0 p0 p1 p2
  go_loopw [3] (fun i wr => ∃ (k : Nat) (y : In), k < n ∧ i = .int .i64 k ∧ Hid (Ext W0 wr) ∧ Hid (x.ins[k]? = some y ∧ r = chainB x.end_ (x.ins.drop k) y.addr)) (fun i _ => n - (intOf i).toNat)
  case atStart => exact ⟨0, x0, by omega, rfl, hid ((Ext.refl W0).drewN _), HCH⟩
  case round =>
    obtain ⟨k, y, hk, rfl, HX, HK⟩ := hrel
    have p1 := HX.out.cell P1.out
    have p2 := HX.out.cell P2.out
    obtain ⟨b', off', hA, hok, a0, a1, a2, a3, a4, a5, a6, a7, a8⟩ := Sl.in_at (HS.out.ext HX.out) HK.out.1
    cases hA
    have HOK := hid hok
    have hstep : r = ((decide (¬ k + 1 < n) || !stopsI y) && chainB x.end_ (x.ins.drop (k + 1)) (nextI y)) := by
      have h := HK.out.2
      rw [drop_cons HK.out.1, chainB, drop_empty HLN.out.symm hk] at h
      simpa using h
    have HST := hid hstep
    have HEN := hid (fun W => rends_any W y)
    have HNX := hid (fun W => rnext_any W y HOK.out)
    have e9 : inV y = .agg #[.int .u32 y.addr, .int .u32 y.imm, .int .i64 y.op, .int .i64 y.form, .int .i64 y.width, .int .i64 y.cc, .int .i64 y.a, .int .i64 y.b, .int .i64 y.size] := rfl
    rw [e9] at HEN HNX
    have hw1 : IntKind.i64.wrap ((k : Int) + 1) = ((k + 1 : Nat) : Int) := (IntWalk.i64_in _ (by have := HC.out; omega)).trans (by omega)
    clear e9 hok hstep
    by_cases h2 : k + 1 < n
    · obtain ⟨z, hz⟩ : ∃ z, x.ins[k + 1]? = some z := ⟨_, List.getElem?_eq_getElem (by have := HLN.out; omega)⟩
      obtain ⟨b', off', hA, -, z0, -⟩ := Sl.in_at (HS.out.ext HX.out) hz
      cases hA
      have HZ := hid hz
      have h2' : ((k + 1 : Nat) : Int) < (n : Int) := by omega
      have h2'' : (0 : Int) ≤ (k : Int) + 1 := by omega
      have h2n : (k : Int) + 1 < (n : Int) := by omega
      have hk' : (k : Int) < (n : Int) := by omega
      have hk'' : (0 : Int) ≤ (k : Int) := by omega
      obtain ⟨s, hs⟩ : ∃ s, stopsI y = s := ⟨_, rfl⟩
      rw [hs] at HEN
      have HSS := hid hs
      obtain ⟨v, hv⟩ : ∃ v, nextI y = v := ⟨_, rfl⟩
      rw [hv] at HNX HST
      have HV := hid hv
      clear hz hs hv
      cases s with
      | true =>
        have hr : Hid (r = false) := hid (by rw [HST.out, HSS.out]; simp [h2])
        go_wp2_with fail
        refine wp_region_held_drew (S := (fun w' => w'.cell? ⟨w.heap.size, 2, none⟩ = some (.slice (some ⟨b, off, none⟩) n c1) ∧ w'.cell? ⟨b, off + (k + 1) * 9, none⟩ = some (.int .u32 z.addr) ∧ w'.cell? ⟨b, off + k * 9, none⟩ = some (.int .u32 y.addr) ∧ w'.cell? ⟨b, off + k * 9 + 1, none⟩ = some (.int .u32 y.imm) ∧ w'.cell? ⟨b, off + k * 9 + 2, none⟩ = some (.int .i64 y.op) ∧ w'.cell? ⟨b, off + k * 9 + 3, none⟩ = some (.int .i64 y.form) ∧ w'.cell? ⟨b, off + k * 9 + 4, none⟩ = some (.int .i64 y.width) ∧ w'.cell? ⟨b, off + k * 9 + 5, none⟩ = some (.int .i64 y.cc) ∧ w'.cell? ⟨b, off + k * 9 + 6, none⟩ = some (.int .i64 y.a) ∧ w'.cell? ⟨b, off + k * 9 + 7, none⟩ = some (.int .i64 y.b) ∧ w'.cell? ⟨b, off + k * 9 + 8, none⟩ = some (.int .i64 y.size))) (by kernel_rfl) ⟨p2, z0, a0, a1, a2, a3, a4, a5, a6, a7, a8⟩ (fun hSg1q0 => ?_)
        refine wpAnyH_takeL (i := 0) (v := ?g1qv0) rfl (by kernel_rfl) (by kernel_rfl) (by kernel_rfl) (fun _ _ _ h => h) (Or.inl ⟨by rfl, ?g1qy0⟩) (by assumption) ?g1qr0
        case g1qy0 => first | (intro w hSw; (try dsimp only at hSw); go_simp; done) | (intro w hSw; (try dsimp only at hSw); go_simp; with_reducible rfl)
        case' g1qr0 => try simp only [Act.put, List.setIfInBounds_toArray, List.set_cons_zero, List.set_cons_succ]
        refine wpAnyH_takeL (i := 1) (v := ?g1qv1) rfl (by kernel_rfl) (by kernel_rfl) (by kernel_rfl) (fun _ _ _ h => h) (Or.inl ⟨by rfl, ?g1qy1⟩) (by assumption) ?g1qr1
        case g1qy1 => first | (intro w hSw; (try dsimp only at hSw); go_simp; done) | (intro w hSw; (try dsimp only at hSw); go_simp; with_reducible rfl)
        case' g1qr1 => try simp only [Act.put, List.setIfInBounds_toArray, List.set_cons_zero, List.set_cons_succ]
        refine wpAnyH_takeL (i := 2) (v := ?g1qv2) rfl (by kernel_rfl) (by kernel_rfl) (by kernel_rfl) (fun _ _ _ h => h) (Or.inl ⟨by rfl, ?g1qy2⟩) (by assumption) ?g1qr2
        case g1qy2 => first | (intro w hSw; (try dsimp only at hSw); go_simp; done) | (intro w hSw; (try dsimp only at hSw); go_simp; with_reducible rfl)
        case' g1qr2 => try simp only [Act.put, List.setIfInBounds_toArray, List.set_cons_zero, List.set_cons_succ]
        refine wpAnyH_takeL (i := 3) (v := ?g1qv3) rfl (by kernel_rfl) (by kernel_rfl) (by kernel_rfl) (fun _ _ _ h => h) (Or.inl ⟨by rfl, ?g1qy3⟩) (by assumption) ?g1qr3
        case g1qy3 => first | (intro w hSw; (try dsimp only at hSw); go_simp; done) | (intro w hSw; (try dsimp only at hSw); go_simp; with_reducible rfl)
        case' g1qr3 => try simp only [Act.put, List.setIfInBounds_toArray, List.set_cons_zero, List.set_cons_succ]
        refine wpAnyH_takeL (i := 4) (v := ?g1qv4) rfl (by kernel_rfl) (by kernel_rfl) (by kernel_rfl) (fun _ _ _ h => h) (Or.inl ⟨by rfl, ?g1qy4⟩) (by assumption) ?g1qr4
        case g1qy4 => first | (intro w hSw; (try dsimp only at hSw); go_simp; done) | (intro w hSw; (try dsimp only at hSw); go_simp; with_reducible rfl)
        case' g1qr4 => try simp only [Act.put, List.setIfInBounds_toArray, List.set_cons_zero, List.set_cons_succ]
        refine wpAnyH_ready (rs := [5]) (by kernel_rfl) (by simp) ?_
        refine AllReadyH.consL rfl (fun K hK => ?_) AllReadyH.nil
        go_simp
        go_at_call 60
        refine (HEN.out _).mono ?_
        rintro e w5 ⟨rfl, hx5⟩
        have HX5 := hid ((Ext.refl wr).drew.trans hx5)
        clear hx5
        refine hK.out _ _ ⟨HX5.out.cell p2, HX5.out.cell z0, HX5.out.cell a0, HX5.out.cell a1, HX5.out.cell a2, HX5.out.cell a3, HX5.out.cell a4, HX5.out.cell a5, HX5.out.cell a6, HX5.out.cell a7, HX5.out.cell a8⟩ (fun hSg1q1 => ?_)
        clear hK K
        try simp only [Act.put, List.setIfInBounds_toArray, List.set_cons_zero, List.set_cons_succ]
        refine wpAnyH_takeL (i := 6) (v := ?g1qv6) rfl (by kernel_rfl) (by kernel_rfl) (by kernel_rfl) (fun _ _ _ h => h) (Or.inl ⟨by rfl, ?g1qy6⟩) (by assumption) ?g1qr6
        case g1qy6 => first | (intro w hSw; (try dsimp only at hSw); go_simp; done) | (intro w hSw; (try dsimp only at hSw); go_simp; with_reducible rfl)
        case' g1qr6 => try simp only [Act.put, List.setIfInBounds_toArray, List.set_cons_zero, List.set_cons_succ]
        refine wpAnyH_takeL (i := 7) (v := undef) rfl (by kernel_rfl) (by kernel_rfl) (by kernel_rfl) (fun _ _ _ h => h) (Or.inr ⟨by rfl, rfl⟩) (by assumption) ?g1qr7
        case' g1qr7 => try simp only [Act.put, List.setIfInBounds_toArray, List.set_cons_zero, List.set_cons_succ]
        refine wpAnyH_takeL (i := 8) (v := undef) rfl (by kernel_rfl) (by kernel_rfl) (by kernel_rfl) (fun _ _ _ h => h) (Or.inr ⟨by rfl, rfl⟩) (by assumption) ?g1qr8
        case' g1qr8 => try simp only [Act.put, List.setIfInBounds_toArray, List.set_cons_zero, List.set_cons_succ]
        refine wpAnyH_takeL (i := 9) (v := undef) rfl (by kernel_rfl) (by kernel_rfl) (by kernel_rfl) (fun _ _ _ h => h) (Or.inr ⟨by rfl, rfl⟩) (by assumption) ?g1qr9
        case' g1qr9 => try simp only [Act.put, List.setIfInBounds_toArray, List.set_cons_zero, List.set_cons_succ]
        refine wpAnyH_takeL (i := 10) (v := undef) rfl (by kernel_rfl) (by kernel_rfl) (by kernel_rfl) (fun _ _ _ h => h) (Or.inr ⟨by rfl, rfl⟩) (by assumption) ?g1qr10
        case' g1qr10 => try simp only [Act.put, List.setIfInBounds_toArray, List.set_cons_zero, List.set_cons_succ]
        refine wpAnyH_takeL (i := 11) (v := undef) rfl (by kernel_rfl) (by kernel_rfl) (by kernel_rfl) (fun _ _ _ h => h) (Or.inr ⟨by rfl, rfl⟩) (by assumption) ?g1qr11
        case' g1qr11 => try simp only [Act.put, List.setIfInBounds_toArray, List.set_cons_zero, List.set_cons_succ]
        refine wpAnyH_takeL (i := 13) (v := undef) rfl (by kernel_rfl) (by kernel_rfl) (by kernel_rfl) (fun _ _ _ h => h) (Or.inr ⟨by rfl, rfl⟩) (by assumption) ?g1qr13
        case' g1qr13 => try simp only [Act.put, List.setIfInBounds_toArray, List.set_cons_zero, List.set_cons_succ]
        refine wpAnyH_takeL (i := 14) (v := undef) rfl (by kernel_rfl) (by kernel_rfl) (by kernel_rfl) (fun _ _ _ h => h) (Or.inr ⟨by rfl, rfl⟩) (by assumption) ?g1qr14
        case' g1qr14 => try simp only [Act.put, List.setIfInBounds_toArray, List.set_cons_zero, List.set_cons_succ]
        refine wpAnyH_takeL (i := 15) (v := undef) rfl (by kernel_rfl) (by kernel_rfl) (by kernel_rfl) (fun _ _ _ h => h) (Or.inr ⟨by rfl, rfl⟩) (by assumption) ?g1qr15
        case' g1qr15 => try simp only [Act.put, List.setIfInBounds_toArray, List.set_cons_zero, List.set_cons_succ]
        refine wpAnyH_takeL (i := 16) (v := undef) rfl (by kernel_rfl) (by kernel_rfl) (by kernel_rfl) (fun _ _ _ h => h) (Or.inr ⟨by rfl, rfl⟩) (by assumption) ?g1qr16
        case' g1qr16 => try simp only [Act.put, List.setIfInBounds_toArray, List.set_cons_zero, List.set_cons_succ]
        refine wpAnyH_takeL (i := 17) (v := undef) rfl (by kernel_rfl) (by kernel_rfl) (by kernel_rfl) (fun _ _ _ h => h) (Or.inr ⟨by rfl, rfl⟩) (by assumption) ?g1qr17
        case' g1qr17 => try simp only [Act.put, List.setIfInBounds_toArray, List.set_cons_zero, List.set_cons_succ]
        refine wpAnyH_takeL (i := 18) (v := undef) rfl (by kernel_rfl) (by kernel_rfl) (by kernel_rfl) (fun _ _ _ h => h) (Or.inr ⟨by rfl, rfl⟩) (by assumption) ?g1qr18
        case' g1qr18 => try simp only [Act.put, List.setIfInBounds_toArray, List.set_cons_zero, List.set_cons_succ]
        refine wpAnyH_takeL (i := 19) (v := undef) rfl (by kernel_rfl) (by kernel_rfl) (by kernel_rfl) (fun _ _ _ h => h) (Or.inr ⟨by rfl, rfl⟩) (by assumption) ?g1qr19
        case' g1qr19 => try simp only [Act.put, List.setIfInBounds_toArray, List.set_cons_zero, List.set_cons_succ]
        refine wpAnyH_ready (rs := [12]) (by kernel_rfl) (by simp) ?_
        refine AllReadyH.consL rfl (fun K hK => ?_) AllReadyH.nil
        refine cast (if_neg (fun h => Bool.noConfusion (show false = true from h))).symm ?_
        refine hK.out _ _ (by assumption) (fun hSg1q2 => ?_)
        clear hK K
        try simp only [Act.put, List.setIfInBounds_toArray, List.set_cons_zero, List.set_cons_succ]
        refine wpAnyH_takeL (i := 20) (v := undef) rfl (by kernel_rfl) (by kernel_rfl) (by kernel_rfl) (fun _ _ _ h => h) (Or.inr ⟨by rfl, rfl⟩) (by assumption) ?g1qr20
        case' g1qr20 => try simp only [Act.put, List.setIfInBounds_toArray, List.set_cons_zero, List.set_cons_succ]
        refine wpAnyH_takeL (i := 21) (v := ?g1qv21) rfl (by kernel_rfl) (by kernel_rfl) (by kernel_rfl) (fun _ _ _ h => h) (Or.inl ⟨by rfl, ?g1qy21⟩) (by assumption) ?g1qr21
        case g1qy21 => first | (intro w hSw; (try dsimp only at hSw); go_simp; done) | (intro w hSw; (try dsimp only at hSw); go_simp; with_reducible rfl)
        case' g1qr21 => try simp only [Act.put, List.setIfInBounds_toArray, List.set_cons_zero, List.set_cons_succ]
        refine wpAnyH_done (by kernel_rfl) ?_ _
        go_wp2
        go_ret
        rw [hr.out]
        exact ⟨rfl, HE.out.trans (HX.out.trans HX5.out)⟩
      | false =>
        have HR2 : Hid (r = chainB x.end_ (x.ins.drop (k + 1)) v) := hid (by rw [HST.out, HSS.out]; simp)
        obtain ⟨t, ht⟩ : ∃ t, ((v : Int) != (z.addr : Int)) = t := ⟨_, rfl⟩
        have HT := hid ht
        clear ht
        go_wp2_with fail
        refine wp_region_held_drew (S := (fun w' => w'.cell? ⟨w.heap.size, 2, none⟩ = some (.slice (some ⟨b, off, none⟩) n c1) ∧ w'.cell? ⟨b, off + (k + 1) * 9, none⟩ = some (.int .u32 z.addr) ∧ w'.cell? ⟨b, off + k * 9, none⟩ = some (.int .u32 y.addr) ∧ w'.cell? ⟨b, off + k * 9 + 1, none⟩ = some (.int .u32 y.imm) ∧ w'.cell? ⟨b, off + k * 9 + 2, none⟩ = some (.int .i64 y.op) ∧ w'.cell? ⟨b, off + k * 9 + 3, none⟩ = some (.int .i64 y.form) ∧ w'.cell? ⟨b, off + k * 9 + 4, none⟩ = some (.int .i64 y.width) ∧ w'.cell? ⟨b, off + k * 9 + 5, none⟩ = some (.int .i64 y.cc) ∧ w'.cell? ⟨b, off + k * 9 + 6, none⟩ = some (.int .i64 y.a) ∧ w'.cell? ⟨b, off + k * 9 + 7, none⟩ = some (.int .i64 y.b) ∧ w'.cell? ⟨b, off + k * 9 + 8, none⟩ = some (.int .i64 y.size))) (by kernel_rfl) ⟨p2, z0, a0, a1, a2, a3, a4, a5, a6, a7, a8⟩ (fun hSg2q0 => ?_)
        refine wpAnyH_takeL (i := 0) (v := ?g2qv0) rfl (by kernel_rfl) (by kernel_rfl) (by kernel_rfl) (fun _ _ _ h => h) (Or.inl ⟨by rfl, ?g2qy0⟩) (by assumption) ?g2qr0
        case g2qy0 => first | (intro w hSw; (try dsimp only at hSw); go_simp; done) | (intro w hSw; (try dsimp only at hSw); go_simp; with_reducible rfl)
        case' g2qr0 => try simp only [Act.put, List.setIfInBounds_toArray, List.set_cons_zero, List.set_cons_succ]
        refine wpAnyH_takeL (i := 1) (v := ?g2qv1) rfl (by kernel_rfl) (by kernel_rfl) (by kernel_rfl) (fun _ _ _ h => h) (Or.inl ⟨by rfl, ?g2qy1⟩) (by assumption) ?g2qr1
        case g2qy1 => first | (intro w hSw; (try dsimp only at hSw); go_simp; done) | (intro w hSw; (try dsimp only at hSw); go_simp; with_reducible rfl)
        case' g2qr1 => try simp only [Act.put, List.setIfInBounds_toArray, List.set_cons_zero, List.set_cons_succ]
        refine wpAnyH_takeL (i := 2) (v := ?g2qv2) rfl (by kernel_rfl) (by kernel_rfl) (by kernel_rfl) (fun _ _ _ h => h) (Or.inl ⟨by rfl, ?g2qy2⟩) (by assumption) ?g2qr2
        case g2qy2 => first | (intro w hSw; (try dsimp only at hSw); go_simp; done) | (intro w hSw; (try dsimp only at hSw); go_simp; with_reducible rfl)
        case' g2qr2 => try simp only [Act.put, List.setIfInBounds_toArray, List.set_cons_zero, List.set_cons_succ]
        refine wpAnyH_takeL (i := 3) (v := ?g2qv3) rfl (by kernel_rfl) (by kernel_rfl) (by kernel_rfl) (fun _ _ _ h => h) (Or.inl ⟨by rfl, ?g2qy3⟩) (by assumption) ?g2qr3
        case g2qy3 => first | (intro w hSw; (try dsimp only at hSw); go_simp; done) | (intro w hSw; (try dsimp only at hSw); go_simp; with_reducible rfl)
        case' g2qr3 => try simp only [Act.put, List.setIfInBounds_toArray, List.set_cons_zero, List.set_cons_succ]
        refine wpAnyH_takeL (i := 4) (v := ?g2qv4) rfl (by kernel_rfl) (by kernel_rfl) (by kernel_rfl) (fun _ _ _ h => h) (Or.inl ⟨by rfl, ?g2qy4⟩) (by assumption) ?g2qr4
        case g2qy4 => first | (intro w hSw; (try dsimp only at hSw); go_simp; done) | (intro w hSw; (try dsimp only at hSw); go_simp; with_reducible rfl)
        case' g2qr4 => try simp only [Act.put, List.setIfInBounds_toArray, List.set_cons_zero, List.set_cons_succ]
        refine wpAnyH_ready (rs := [5]) (by kernel_rfl) (by simp) ?_
        refine AllReadyH.consL rfl (fun K hK => ?_) AllReadyH.nil
        go_simp
        go_at_call 60
        refine (HEN.out _).mono ?_
        rintro e w5 ⟨rfl, hx5⟩
        have HX5 := hid ((Ext.refl wr).drew.trans hx5)
        clear hx5
        refine hK.out _ _ ⟨HX5.out.cell p2, HX5.out.cell z0, HX5.out.cell a0, HX5.out.cell a1, HX5.out.cell a2, HX5.out.cell a3, HX5.out.cell a4, HX5.out.cell a5, HX5.out.cell a6, HX5.out.cell a7, HX5.out.cell a8⟩ (fun hSg2q1 => ?_)
        clear hK K
        try simp only [Act.put, List.setIfInBounds_toArray, List.set_cons_zero, List.set_cons_succ]
        refine wpAnyH_takeL (i := 6) (v := ?g2qv6) rfl (by kernel_rfl) (by kernel_rfl) (by kernel_rfl) (fun _ _ _ h => h) (Or.inl ⟨by rfl, ?g2qy6⟩) (by assumption) ?g2qr6
        case g2qy6 => first | (intro w hSw; (try dsimp only at hSw); go_simp; done) | (intro w hSw; (try dsimp only at hSw); go_simp; with_reducible rfl)
        case' g2qr6 => try simp only [Act.put, List.setIfInBounds_toArray, List.set_cons_zero, List.set_cons_succ]
        refine wpAnyH_takeL (i := 7) (v := ?g2qv7) rfl (by kernel_rfl) (by kernel_rfl) (by kernel_rfl) (fun _ _ _ h => h) (Or.inl ⟨by rfl, ?g2qy7⟩) (by assumption) ?g2qr7
        case g2qy7 => first | (intro w hSw; (try dsimp only at hSw); go_simp; done) | (intro w hSw; (try dsimp only at hSw); go_simp; with_reducible rfl)
        case' g2qr7 => try simp only [Act.put, List.setIfInBounds_toArray, List.set_cons_zero, List.set_cons_succ]
        refine wpAnyH_takeL (i := 8) (v := ?g2qv8) rfl (by kernel_rfl) (by kernel_rfl) (by kernel_rfl) (fun _ _ _ h => h) (Or.inl ⟨by rfl, ?g2qy8⟩) (by assumption) ?g2qr8
        case g2qy8 => first | (intro w hSw; (try dsimp only at hSw); go_simp; done) | (intro w hSw; (try dsimp only at hSw); go_simp; with_reducible rfl)
        case' g2qr8 => try simp only [Act.put, List.setIfInBounds_toArray, List.set_cons_zero, List.set_cons_succ]
        refine wpAnyH_takeL (i := 9) (v := ?g2qv9) rfl (by kernel_rfl) (by kernel_rfl) (by kernel_rfl) (fun _ _ _ h => h) (Or.inl ⟨by rfl, ?g2qy9⟩) (by assumption) ?g2qr9
        case g2qy9 => first | (intro w hSw; (try dsimp only at hSw); go_simp; done) | (intro w hSw; (try dsimp only at hSw); go_simp; with_reducible rfl)
        case' g2qr9 => try simp only [Act.put, List.setIfInBounds_toArray, List.set_cons_zero, List.set_cons_succ]
        refine wpAnyH_takeL (i := 10) (v := ?g2qv10) rfl (by kernel_rfl) (by kernel_rfl) (by kernel_rfl) (fun _ _ _ h => h) (Or.inl ⟨by rfl, ?g2qy10⟩) (by assumption) ?g2qr10
        case g2qy10 => first | (intro w hSw; (try dsimp only at hSw); go_simp; done) | (intro w hSw; (try dsimp only at hSw); go_simp; with_reducible rfl)
        case' g2qr10 => try simp only [Act.put, List.setIfInBounds_toArray, List.set_cons_zero, List.set_cons_succ]
        refine wpAnyH_takeL (i := 11) (v := ?g2qv11) rfl (by kernel_rfl) (by kernel_rfl) (by kernel_rfl) (fun _ _ _ h => h) (Or.inl ⟨by rfl, ?g2qy11⟩) (by assumption) ?g2qr11
        case g2qy11 => first | (intro w hSw; (try dsimp only at hSw); go_simp; done) | (intro w hSw; (try dsimp only at hSw); go_simp; with_reducible rfl)
        case' g2qr11 => try simp only [Act.put, List.setIfInBounds_toArray, List.set_cons_zero, List.set_cons_succ]
        refine wpAnyH_takeL (i := 13) (v := ?g2qv13) rfl (by kernel_rfl) (by kernel_rfl) (by kernel_rfl) (fun _ _ _ h => h) (Or.inl ⟨by rfl, ?g2qy13⟩) (by assumption) ?g2qr13
        case g2qy13 => first | (intro w hSw; (try dsimp only at hSw); go_simp; done) | (intro w hSw; (try dsimp only at hSw); go_simp; with_reducible rfl)
        case' g2qr13 => try simp only [Act.put, List.setIfInBounds_toArray, List.set_cons_zero, List.set_cons_succ]
        refine wpAnyH_takeL (i := 14) (v := ?g2qv14) rfl (by kernel_rfl) (by kernel_rfl) (by kernel_rfl) (fun _ _ _ h => h) (Or.inl ⟨by rfl, ?g2qy14⟩) (by assumption) ?g2qr14
        case g2qy14 => first | (intro w hSw; (try dsimp only at hSw); go_simp; done) | (intro w hSw; (try dsimp only at hSw); go_simp; with_reducible rfl)
        case' g2qr14 => try simp only [Act.put, List.setIfInBounds_toArray, List.set_cons_zero, List.set_cons_succ]
        refine wpAnyH_takeL (i := 15) (v := ?g2qv15) rfl (by kernel_rfl) (by kernel_rfl) (by kernel_rfl) (fun _ _ _ h => h) (Or.inl ⟨by rfl, ?g2qy15⟩) (by assumption) ?g2qr15
        case g2qy15 => first | (intro w hSw; (try dsimp only at hSw); go_simp; done) | (intro w hSw; (try dsimp only at hSw); go_simp; with_reducible rfl)
        case' g2qr15 => try simp only [Act.put, List.setIfInBounds_toArray, List.set_cons_zero, List.set_cons_succ]
        refine wpAnyH_takeL (i := 16) (v := ?g2qv16) rfl (by kernel_rfl) (by kernel_rfl) (by kernel_rfl) (fun _ _ _ h => h) (Or.inl ⟨by rfl, ?g2qy16⟩) (by assumption) ?g2qr16
        case g2qy16 => first | (intro w hSw; (try dsimp only at hSw); go_simp; done) | (intro w hSw; (try dsimp only at hSw); go_simp; with_reducible rfl)
        case' g2qr16 => try simp only [Act.put, List.setIfInBounds_toArray, List.set_cons_zero, List.set_cons_succ]
        refine wpAnyH_takeL (i := 17) (v := ?g2qv17) rfl (by kernel_rfl) (by kernel_rfl) (by kernel_rfl) (fun _ _ _ h => h) (Or.inl ⟨by rfl, ?g2qy17⟩) (by assumption) ?g2qr17
        case g2qy17 => first | (intro w hSw; (try dsimp only at hSw); go_simp; done) | (intro w hSw; (try dsimp only at hSw); go_simp; with_reducible rfl)
        case' g2qr17 => try simp only [Act.put, List.setIfInBounds_toArray, List.set_cons_zero, List.set_cons_succ]
        refine wpAnyH_takeL (i := 18) (v := ?g2qv18) rfl (by kernel_rfl) (by kernel_rfl) (by kernel_rfl) (fun _ _ _ h => h) (Or.inl ⟨by rfl, ?g2qy18⟩) (by assumption) ?g2qr18
        case g2qy18 => first | (intro w hSw; (try dsimp only at hSw); go_simp; done) | (intro w hSw; (try dsimp only at hSw); go_simp; with_reducible rfl)
        case' g2qr18 => try simp only [Act.put, List.setIfInBounds_toArray, List.set_cons_zero, List.set_cons_succ]
        refine wpAnyH_takeL (i := 19) (v := ?g2qv19) rfl (by kernel_rfl) (by kernel_rfl) (by kernel_rfl) (fun _ _ _ h => h) (Or.inl ⟨by rfl, ?g2qy19⟩) (by assumption) ?g2qr19
        case g2qy19 => first | (intro w hSw; (try dsimp only at hSw); go_simp; done) | (intro w hSw; (try dsimp only at hSw); go_simp; with_reducible rfl)
        case' g2qr19 => try simp only [Act.put, List.setIfInBounds_toArray, List.set_cons_zero, List.set_cons_succ]
        refine wpAnyH_ready (rs := [12]) (by kernel_rfl) (by simp) ?_
        refine AllReadyH.consL rfl (fun K hK => ?_) AllReadyH.nil
        go_simp
        go_at_call 61
        refine (HNX.out _).mono ?_
        rintro e w6 ⟨rfl, hx6⟩
        have HX6 := hid (HX5.out.trans hx6)
        clear hx6
        refine hK.out _ _ ⟨HX6.out.cell p2, HX6.out.cell z0, HX6.out.cell a0, HX6.out.cell a1, HX6.out.cell a2, HX6.out.cell a3, HX6.out.cell a4, HX6.out.cell a5, HX6.out.cell a6, HX6.out.cell a7, HX6.out.cell a8⟩ (fun hSg2q2 => ?_)
        clear hK K
        try simp only [Act.put, List.setIfInBounds_toArray, List.set_cons_zero, List.set_cons_succ]
        refine wpAnyH_takeL (i := 20) (v := ?g2qv20) rfl (by kernel_rfl) (by kernel_rfl) (by kernel_rfl) (fun _ _ _ h => h) (Or.inl ⟨by rfl, ?g2qy20⟩) (by assumption) ?g2qr20
        case g2qy20 => first | (intro w hSw; (try dsimp only at hSw); go_simp; done) | (intro w hSw; (try dsimp only at hSw); go_simp; with_reducible rfl)
        case' g2qr20 => try simp only [Act.put, List.setIfInBounds_toArray, List.set_cons_zero, List.set_cons_succ]
        refine wpAnyH_takeL (i := 21) (v := ?g2qv21) rfl (by kernel_rfl) (by kernel_rfl) (by kernel_rfl) (fun _ _ _ h => h) (Or.inl ⟨by rfl, ?g2qy21⟩) (by assumption) ?g2qr21
        case g2qy21 => first | (intro w hSw; (try dsimp only at hSw); go_simp; done) | (intro w hSw; (try dsimp only at hSw); go_simp; with_reducible rfl)
        case' g2qr21 => try simp only [Act.put, List.setIfInBounds_toArray, List.set_cons_zero, List.set_cons_succ]
        refine wpAnyH_done (by kernel_rfl) ?_ _
        rw [HT.out]
        cases t with
        | true =>
          have hr : Hid (r = false) := hid (by
            rw [HR2.out, drop_cons HZ.out, chainB]
            have h : v ≠ z.addr := by have := HT.out; simp at this; omega
            simp [Ne.symm h])
          go_wp2
          go_ret
          rw [hr.out]
          exact ⟨rfl, HE.out.trans (HX.out.trans HX6.out)⟩
        | false =>
          have hvz : v = z.addr := by have := HT.out; simp at this; omega
          have HR3 : Hid (x.ins[k + 1]? = some z ∧ r = chainB x.end_ (x.ins.drop (k + 1)) z.addr) := hid ⟨HZ.out, by rw [← hvz]; exact HR2.out⟩
          have HXN := hid (HX.out.trans HX6.out)
          have HK1 := hid h2
          clear hvz
          go_wp2
          first
            | go_roundw
            | refine ⟨?rel, ?measure⟩
          case rel => exact ⟨k + 1, z, HK1.out, by go_num, HXN, HR3⟩
          case measure => simp [intOf]; omega
    · obtain rfl : n = k + 1 := by omega
      have HR2 : Hid (r = chainB x.end_ (x.ins.drop (k + 1)) (nextI y)) := hid (by rw [HST.out]; simp)
      obtain ⟨v, hv⟩ : ∃ v, nextI y = v := ⟨_, rfl⟩
      rw [hv] at HNX HR2
      have hr : r = decide (v = x.end_) := by rw [HR2.out, List.drop_of_length_le (by have := HLN.out; omega)]; rfl
      have HRR := hid hr
      have hw0 : IntKind.i64.wrap (((k + 1 : Nat) : Int) - 1) = (k : Int) := (IntWalk.i64_in _ (by have := HC.out; omega)).trans (by omega)
      have hw2 : IntKind.i64.wrap (k : Int) = (k : Int) := IntWalk.i64_in _ (by have := HC.out; omega)
      have hk' : (k : Int) < (k : Int) + 1 := by omega
      have hk'' : (0 : Int) ≤ (k : Int) := by omega
      have h2n : ¬ ((k + 1 : Nat) : Int) < ((k + 1 : Nat) : Int) := by omega
      obtain ⟨t, ht⟩ : ∃ t, ((v : Int) != (x.end_ : Int)) = t := ⟨_, rfl⟩
      have HT := hid ht
      have HTR : Hid (r = !t) := hid (by rw [HRR.out, ← ht, Bool.eq_iff_iff]; simp; omega)
      clear hv hr ht h2
      go_wp2_with fail
      clear hw1 h2n
      refine wp_region_held_drew (S := (fun w' => w'.cell? ⟨w.heap.size, 2, none⟩ = some (.slice (some ⟨b, off, none⟩) (k + 1) c1) ∧ w'.cell? ⟨w.heap.size, 1, none⟩ = some (.int .u32 x.end_) ∧ w'.cell? ⟨b, off + k * 9, none⟩ = some (.int .u32 y.addr) ∧ w'.cell? ⟨b, off + k * 9 + 1, none⟩ = some (.int .u32 y.imm) ∧ w'.cell? ⟨b, off + k * 9 + 2, none⟩ = some (.int .i64 y.op) ∧ w'.cell? ⟨b, off + k * 9 + 3, none⟩ = some (.int .i64 y.form) ∧ w'.cell? ⟨b, off + k * 9 + 4, none⟩ = some (.int .i64 y.width) ∧ w'.cell? ⟨b, off + k * 9 + 5, none⟩ = some (.int .i64 y.cc) ∧ w'.cell? ⟨b, off + k * 9 + 6, none⟩ = some (.int .i64 y.a) ∧ w'.cell? ⟨b, off + k * 9 + 7, none⟩ = some (.int .i64 y.b) ∧ w'.cell? ⟨b, off + k * 9 + 8, none⟩ = some (.int .i64 y.size))) (by kernel_rfl) ⟨p2, p1, a0, a1, a2, a3, a4, a5, a6, a7, a8⟩ (fun hSg3q0 => ?_)
      refine wpAnyH_takeL (i := 0) (v := ?g3qv0) rfl (by kernel_rfl) (by kernel_rfl) (by kernel_rfl) (fun _ _ _ h => h) (Or.inl ⟨by rfl, ?g3qy0⟩) (by assumption) ?g3qr0
      case g3qy0 => first | (intro w hSw; (try dsimp only at hSw); go_simp; done) | (intro w hSw; (try dsimp only at hSw); go_simp; with_reducible rfl)
      case' g3qr0 => try simp only [Act.put, List.setIfInBounds_toArray, List.set_cons_zero, List.set_cons_succ]
      refine wpAnyH_takeL (i := 1) (v := ?g3qv1) rfl (by kernel_rfl) (by kernel_rfl) (by kernel_rfl) (fun _ _ _ h => h) (Or.inl ⟨by rfl, ?g3qy1⟩) (by assumption) ?g3qr1
      case g3qy1 => first | (intro w hSw; (try dsimp only at hSw); go_simp; done) | (intro w hSw; (try dsimp only at hSw); go_simp; with_reducible rfl)
      case' g3qr1 => try simp only [Act.put, List.setIfInBounds_toArray, List.set_cons_zero, List.set_cons_succ]
      refine wpAnyH_takeL (i := 2) (v := ?g3qv2) rfl (by kernel_rfl) (by kernel_rfl) (by kernel_rfl) (fun _ _ _ h => h) (Or.inl ⟨by rfl, ?g3qy2⟩) (by assumption) ?g3qr2
      case g3qy2 => first | (intro w hSw; (try dsimp only at hSw); go_simp; done) | (intro w hSw; (try dsimp only at hSw); go_simp; with_reducible rfl)
      case' g3qr2 => try simp only [Act.put, List.setIfInBounds_toArray, List.set_cons_zero, List.set_cons_succ]
      refine wpAnyH_takeL (i := 3) (v := ?g3qv3) rfl (by kernel_rfl) (by kernel_rfl) (by kernel_rfl) (fun _ _ _ h => h) (Or.inl ⟨by rfl, ?g3qy3⟩) (by assumption) ?g3qr3
      case g3qy3 => first | (intro w hSw; (try dsimp only at hSw); go_simp; done) | (intro w hSw; (try dsimp only at hSw); go_simp; with_reducible rfl)
      case' g3qr3 => try simp only [Act.put, List.setIfInBounds_toArray, List.set_cons_zero, List.set_cons_succ]
      refine wpAnyH_takeL (i := 4) (v := ?g3qv4) rfl (by kernel_rfl) (by kernel_rfl) (by kernel_rfl) (fun _ _ _ h => h) (Or.inl ⟨by rfl, ?g3qy4⟩) (by assumption) ?g3qr4
      case g3qy4 => first | (intro w hSw; (try dsimp only at hSw); go_simp; done) | (intro w hSw; (try dsimp only at hSw); go_simp; with_reducible rfl)
      case' g3qr4 => try simp only [Act.put, List.setIfInBounds_toArray, List.set_cons_zero, List.set_cons_succ]
      refine wpAnyH_takeL (i := 5) (v := ?g3qv5) rfl (by kernel_rfl) (by kernel_rfl) (by kernel_rfl) (fun _ _ _ h => h) (Or.inl ⟨by rfl, ?g3qy5⟩) (by assumption) ?g3qr5
      case g3qy5 => first | (intro w hSw; (try dsimp only at hSw); go_simp; done) | (intro w hSw; (try dsimp only at hSw); go_simp; with_reducible rfl)
      case' g3qr5 => try simp only [Act.put, List.setIfInBounds_toArray, List.set_cons_zero, List.set_cons_succ]
      refine wpAnyH_takeL (i := 6) (v := ?g3qv6) rfl (by kernel_rfl) (by kernel_rfl) (by kernel_rfl) (fun _ _ _ h => h) (Or.inl ⟨by rfl, ?g3qy6⟩) (by assumption) ?g3qr6
      case g3qy6 => first | (intro w hSw; (try dsimp only at hSw); go_simp; done) | (intro w hSw; (try dsimp only at hSw); go_simp; with_reducible rfl)
      case' g3qr6 => try simp only [Act.put, List.setIfInBounds_toArray, List.set_cons_zero, List.set_cons_succ]
      refine wpAnyH_takeL (i := 7) (v := ?g3qv7) rfl (by kernel_rfl) (by kernel_rfl) (by kernel_rfl) (fun _ _ _ h => h) (Or.inl ⟨by rfl, ?g3qy7⟩) (by assumption) ?g3qr7
      case g3qy7 => first | (intro w hSw; (try dsimp only at hSw); go_simp; done) | (intro w hSw; (try dsimp only at hSw); go_simp; with_reducible rfl)
      case' g3qr7 => try simp only [Act.put, List.setIfInBounds_toArray, List.set_cons_zero, List.set_cons_succ]
      refine wpAnyH_takeL (i := 9) (v := ?g3qv9) rfl (by kernel_rfl) (by kernel_rfl) (by kernel_rfl) (fun _ _ _ h => h) (Or.inl ⟨by rfl, ?g3qy9⟩) (by assumption) ?g3qr9
      case g3qy9 => first | (intro w hSw; (try dsimp only at hSw); go_simp; done) | (intro w hSw; (try dsimp only at hSw); go_simp; with_reducible rfl)
      case' g3qr9 => try simp only [Act.put, List.setIfInBounds_toArray, List.set_cons_zero, List.set_cons_succ]
      refine wpAnyH_takeL (i := 10) (v := ?g3qv10) rfl (by kernel_rfl) (by kernel_rfl) (by kernel_rfl) (fun _ _ _ h => h) (Or.inl ⟨by rfl, ?g3qy10⟩) (by assumption) ?g3qr10
      case g3qy10 => first | (intro w hSw; (try dsimp only at hSw); go_simp; done) | (intro w hSw; (try dsimp only at hSw); go_simp; with_reducible rfl)
      case' g3qr10 => try simp only [Act.put, List.setIfInBounds_toArray, List.set_cons_zero, List.set_cons_succ]
      refine wpAnyH_ready (rs := [8]) (by kernel_rfl) (by simp) ?_
      refine AllReadyH.consL rfl (fun K hK => ?_) AllReadyH.nil
      go_simp
      go_at_call 61
      refine (HNX.out _).mono ?_
      rintro e w6 ⟨rfl, hx6⟩
      have HX6 := hid ((Ext.refl wr).drew.trans hx6)
      clear hx6
      refine hK.out _ _ ⟨HX6.out.cell p2, HX6.out.cell p1, HX6.out.cell a0, HX6.out.cell a1, HX6.out.cell a2, HX6.out.cell a3, HX6.out.cell a4, HX6.out.cell a5, HX6.out.cell a6, HX6.out.cell a7, HX6.out.cell a8⟩ (fun hSg3q1 => ?_)
      clear hK K
      try simp only [Act.put, List.setIfInBounds_toArray, List.set_cons_zero, List.set_cons_succ]
      refine wpAnyH_takeL (i := 11) (v := ?g3qv11) rfl (by kernel_rfl) (by kernel_rfl) (by kernel_rfl) (fun _ _ _ h => h) (Or.inl ⟨by rfl, ?g3qy11⟩) (by assumption) ?g3qr11
      case g3qy11 => first | (intro w hSw; (try dsimp only at hSw); go_simp; done) | (intro w hSw; (try dsimp only at hSw); go_simp; with_reducible rfl)
      case' g3qr11 => try simp only [Act.put, List.setIfInBounds_toArray, List.set_cons_zero, List.set_cons_succ]
      refine wpAnyH_takeL (i := 12) (v := ?g3qv12) rfl (by kernel_rfl) (by kernel_rfl) (by kernel_rfl) (fun _ _ _ h => h) (Or.inl ⟨by rfl, ?g3qy12⟩) (by assumption) ?g3qr12
      case g3qy12 => first | (intro w hSw; (try dsimp only at hSw); go_simp; done) | (intro w hSw; (try dsimp only at hSw); go_simp; with_reducible rfl)
      case' g3qr12 => try simp only [Act.put, List.setIfInBounds_toArray, List.set_cons_zero, List.set_cons_succ]
      refine wpAnyH_done (by kernel_rfl) ?_ _
      rw [HT.out]
      go_wp2
      go_ret
      rw [HTR.out]
      exact ⟨ret_bool (by simp), HE.out.trans (HX.out.trans HX6.out)⟩
end Go.Proofs.YtnlmhnbogleijaaGreatDoor

namespace Go.Proofs.YtnlmhnbogleijaaGreatDoor
open Go.RowKit Go.Deco
set_option linter.unusedSimpArgs false
set_option linter.unusedVariables false
set_option maxRecDepth 100000

/-- The error of block x with the blocks ahead of it. -/
def errAt (pre : List Bs) (x : Bs) : Nat := if formedB x = false then 4 else if pre.any (eqBs x.addr) = true then 8 else 0
def chkGo : List Bs → List Bs → Nat
  | _, [] => 0
  | pre, x :: r => if errAt pre x = 0 then chkGo (pre ++ [x]) r else errAt pre x
def checkBs (l : List Bs) : Nat := if 256 < l.length then 6 else chkGo [] l
theorem chk_step {l : List Bs} {k : Nat} {x : Bs} (h : l[k]? = some x) : chkGo (l.take k) (l.drop k) = if errAt (l.take k) x = 0 then chkGo (l.take (k + 1)) (l.drop (k + 1)) else errAt (l.take k) x := by
  rw [drop_cons h, chkGo, take_snoc' h]
theorem info_bas2 : (Tryz.prog.info? 55).map (fun i => (i.zero, i.size, i.bytes)) = some (some (.agg #[.int .u32 0, .int .u32 0, .slice none 0 0, .slice none 0 0, .slice none 0 0]), 5, 80) := by kernel_rfl

set_option maxHeartbeats 4000000 in
theorem check_any (w : World) (A : Option Addr) (n c : Nat) (l : List Bs) (hl : Sl bsR w All (.slice A n c) l) : Calls Tryz.prog 15 #[.slice A n c] w fun e w' => e = .returned (.int .i64 (checkBs l)) ∧ Ext w w' := by
  obtain ⟨i0, hi, hz0, hz1, hz2⟩ := info_parts info_bas2
  have HI := hid hi
  have HZ1 := hid hz1
  clear hi hz0 hz1 hz2
  have HLN := hid hl.len
  have hcap := hl.cap
  have HL := hid hl
  obtain ⟨r, hr⟩ : ∃ r, checkBs l = r := ⟨_, rfl⟩
  rw [hr]
  have HR := hid hr
  clear hl hr
  go_enter Tryz.func15, Tryz.ntmps15
  by_cases hbig : 256 < n
  · have hr : Hid (r = 6) := hid (by rw [← HR.out, checkBs, if_pos (by rw [← HLN.out]; exact hbig)])
    go_wp2
    go_ret
    rw [hr.out]
    exact ⟨rfl, Ext.refl _⟩
  have HR2 : Hid (r = chkGo (l.take 0) (l.drop 0)) := hid (by rw [← HR.out, checkBs, if_neg (by rw [← HLN.out]; exact hbig)]; rfl)
  go_wp2
  go_loopw [10] (fun i wr => ∃ k : Nat, k ≤ n ∧ i = .int .i64 k ∧ Hid (Ext w wr) ∧ Hid (r = chkGo (l.take k) (l.drop k))) (fun i _ => n - (intOf i).toNat)
  case atStart => exact ⟨0, by omega, rfl, hid (Ext.refl _), HR2⟩
  case round =>
    obtain ⟨k, hk, rfl, HX, HK⟩ := hrel
    by_cases h1 : k < n
    · obtain ⟨x, hx⟩ : ∃ x, l[k]? = some x := ⟨_, List.getElem?_eq_getElem (by have := HLN.out; omega)⟩
      obtain ⟨b, off, A1, c1, A2, c2, A3, c3, rfl, hin, -, -, -, -, e0, e1, e2, e3, e4⟩ := Sl.bs_at (HL.out.ext HX.out) hx
      have hst := chk_step hx
      rw [← HK.out] at hst
      have HST := hid hst
      obtain ⟨W1, hW1⟩ : ∃ W1, wr.alloc (.cells #[.int .u32 x.addr, .int .u32 x.end_, .slice A1 x.ins.length c1, .slice A2 x.succ.length c2, .slice A3 x.calls.length c3] 55) = W1 := ⟨_, rfl⟩
      have hE1 : Ext wr W1 := by rw [← hW1]; exact (Ext.refl wr).alloc _
      have p0 : W1.cell? ⟨wr.heap.size, 0, none⟩ = some (.int .u32 x.addr) := by rw [← hW1]; simp [go_sem]
      have p1 : W1.cell? ⟨wr.heap.size, 1, none⟩ = some (.int .u32 x.end_) := by rw [← hW1]; simp [go_sem]
      have p2 : W1.cell? ⟨wr.heap.size, 2, none⟩ = some (.slice A1 x.ins.length c1) := by rw [← hW1]; simp [go_sem]
      have p3 : W1.cell? ⟨wr.heap.size, 3, none⟩ = some (.slice A2 x.succ.length c2) := by rw [← hW1]; simp [go_sem]
      have p4 : W1.cell? ⟨wr.heap.size, 4, none⟩ = some (.slice A3 x.calls.length c3) := by rw [← hW1]; simp [go_sem]
      have HF := hid (formed_any W1 x A1 A2 A3 x.ins.length c1 x.succ.length c2 x.calls.length c3 (hin.ext hE1))
      have HX1 := hid (HX.out.trans hE1)
      obtain ⟨f, hf⟩ : ∃ f, formedB x = f := ⟨_, rfl⟩
      rw [hf] at HF
      have HFF := hid hf
      clear hx hin hst hE1 hf
      go_wp2_with fail
      refine (HF.out).mono ?_
      rintro e w2 ⟨rfl, hx2⟩
      have HX2 := hid (HX1.out.trans hx2)
      have P0 := hid (hx2.cell p0)
      clear hx2 p0 p1 p2 p3 p4 e0 e1 e2 e3 e4 hW1
      cases f with
      | false =>
        have he : Hid (r = 4) := hid (by
          have h : errAt (l.take k) x = 4 := by rw [errAt, if_pos HFF.out]
          rw [HST.out, h]; rfl)
        go_wp2
        go_ret
        rw [he.out]
        exact ⟨rfl, HX2.out⟩
      | true =>
        have HCE := hid (fun A2 (h : Sl bsR w All (.slice A2 k c) (l.take k)) => containsEq_any w2 x.addr wr.heap.size P0.out All A2 k c (l.take k) (h.ext HX2.out))
        obtain ⟨g, hg⟩ : ∃ g, (l.take k).any (eqBs x.addr) = g := ⟨_, rfl⟩
        rw [hg] at HCE
        have HGG := hid hg
        clear hg
        go_wp2_with (first
          | ((with_reducible refine wpList_at_slice 32 (.tmp 18) none (some (.tmp 19)) rfl rfl ?_); refine wpList_to rfl 32 55 (.tmp 18) (.tmp 19) rfl Tryz.underlying32 i0 HI.out bsR HZ1.out rfl HL.out k rfl hk ?_; intro A4 hA4; have HA4 := hid hA4; clear hA4)
          | fail)
        refine (HCE.out A4 HA4.out).mono ?_
        rintro e w3 ⟨rfl, hx3⟩
        have HX3 := hid (HX2.out.trans hx3)
        clear hx3
        cases g with
        | true =>
          have he : Hid (r = 8) := hid (by
            have h : errAt (l.take k) x = 8 := by rw [errAt, if_neg (by rw [HFF.out]; simp), if_pos HGG.out]
            rw [HST.out, h]; rfl)
          go_wp2
          go_ret
          rw [he.out]
          exact ⟨rfl, HX3.out⟩
        | false =>
          have he : Hid (r = chkGo (l.take (k + 1)) (l.drop (k + 1))) := hid (by
            have h : errAt (l.take k) x = 0 := by rw [errAt, if_neg (by rw [HFF.out]; simp), if_neg (by rw [HGG.out]; simp)]
            rw [HST.out, if_pos h])
          go_wp2
          first
            | go_roundw
            | refine ⟨?rel, ?measure⟩
          case rel => exact ⟨k + 1, by omega, by go_num, HX3, he⟩
          case measure => simp [intOf]; omega
    · obtain rfl : k = n := by omega
      have he : Hid (r = 0) := hid (by rw [HK.out, List.drop_of_length_le (by have := HLN.out; omega)]; rfl)
      go_wp2
      go_ret
      rw [he.out]
      exact ⟨rfl, HX.out⟩

set_option maxHeartbeats 4000000 in
theorem rcheck17_any (w : World) (A : Option Addr) (n c : Nat) (l : List Bs) (hl : Sl bsR w All (.slice A n c) l) : Calls Tryz.prog 19 #[.slice A n c] w fun e w' => e = .returned (.int .i64 (checkBs l)) ∧ Ext w w' := by
  have HLN := hid hl.len
  have hcap := hl.cap
  have HL := hid hl
  obtain ⟨r, hr⟩ : ∃ r, checkBs l = r := ⟨_, rfl⟩
  rw [hr]
  have HR := hid hr
  clear hl hr
  go_enter Tryz.func19, Tryz.ntmps19
  by_cases hbig : 256 < n
  · have hr : Hid (r = 6) := hid (by rw [← HR.out, checkBs, if_pos (by rw [← HLN.out]; exact hbig)])
    go_wp2
    go_ret
    rw [hr.out]
    exact ⟨rfl, Ext.refl _⟩
  have HR2 : Hid (r = chkGo (l.take 0) (l.drop 0)) := hid (by rw [← HR.out, checkBs, if_neg (by rw [← HLN.out]; exact hbig)]; rfl)
  go_wp2
  go_loopw [3] (fun i wr => ∃ k : Nat, k ≤ n ∧ i = .int .i64 k ∧ Hid (Ext w wr) ∧ Hid (r = chkGo (l.take k) (l.drop k))) (fun i _ => n - (intOf i).toNat)
  case atStart => exact ⟨0, by omega, rfl, hid (Ext.refl _), HR2⟩
  case round =>
    obtain ⟨k, hk, rfl, HX, HK⟩ := hrel
    by_cases h1 : k < n
    · obtain ⟨x, hx⟩ : ∃ x, l[k]? = some x := ⟨_, List.getElem?_eq_getElem (by have := HLN.out; omega)⟩
      obtain ⟨b, off, A1, c1, A2, c2, A3, c3, rfl, hin, -, -, -, -, e0, e1, e2, e3, e4⟩ := Sl.bs_at (HL.out.ext HX.out) hx
      have hst := chk_step hx
      rw [← HK.out] at hst
      have HST := hid hst
      have HF := hid (wrong_any wr x A1 A2 A3 x.ins.length c1 x.succ.length c2 x.calls.length c3 hin)
      obtain ⟨f, hf⟩ : ∃ f, formedB x = f := ⟨_, rfl⟩
      rw [hf] at HF
      have HFF := hid hf
      have HKX := hid hx
      clear hx hin hst hf
      go_wp2_with fail
      refine (HF.out).mono ?_
      rintro e w2 ⟨rfl, hx2⟩
      have HX2 := hid (HX.out.trans hx2)
      have E0 := hid (hx2.cell e0)
      clear hx2 e0 e1 e2 e3 e4
      cases f with
      | false =>
        have he : Hid (r = 4) := hid (by
          have h : errAt (l.take k) x = 4 := by rw [errAt, if_pos HFF.out]
          rw [HST.out, h]; rfl)
        go_wp2
        go_ret
        rw [he.out]
        exact ⟨rfl, HX2.out⟩
      | true =>
        obtain ⟨V, hV⟩ : ∃ V, V = w2 := ⟨_, rfl⟩
        subst hV
        go_wp2
        go_loopw [4] (fun i wi => ∃ j : Nat, j ≤ k ∧ i = .int .i64 j ∧ Hid (Ext V wi) ∧ Hid (∀ y ∈ l.take j, eqBs x.addr y = false)) (fun i _ => k - (intOf i).toNat)
        case atStart => exact ⟨0, by omega, rfl, hid (Ext.refl _), hid (by simp)⟩
        case round =>
          obtain ⟨j, hj, rfl, HXV, HJ⟩ := hrel
          have e0 := HXV.out.cell E0.out
          have HXW := hid (HX2.out.trans HXV.out)
          by_cases h2 : j < k
          · obtain ⟨y, hy⟩ : ∃ y, l[j]? = some y := ⟨_, List.getElem?_eq_getElem (by have := HLN.out; omega)⟩
            obtain ⟨b', off', A1', c1', A2', c2', A3', c3', hA, -, -, -, -, -, d0, -, -, -, -⟩ := Sl.bs_at (HL.out.ext HXW.out) hy
            cases hA
            have HY := hid hy
            have i1 : (j : Int) < (n : Int) := by omega
            have i2 : (k : Int) < (n : Int) := by omega
            clear hy
            by_cases hq : y.addr = x.addr
            · have n1 : ((y.addr : Int) == (x.addr : Int)) = true := by simp [hq]
              have he : Hid (r = 8) := hid (by
                have hg : (l.take k).any (eqBs x.addr) = true := List.any_eq_true.2 ⟨y, List.mem_of_getElem? (by rw [List.getElem?_take, if_pos h2]; exact HY.out), by simp [eqBs, hq]⟩
                have h : errAt (l.take k) x = 8 := by rw [errAt, if_neg (by rw [HFF.out]; simp), if_pos hg]
                rw [HST.out, h]; rfl)
              clear hq
              go_wp2
              go_quiet (fail)
              go_wp2
              go_ret
              rw [he.out]
              exact ⟨rfl, HXW.out.drewN _⟩
            · have n1 : ((y.addr : Int) == (x.addr : Int)) = false := by simp; omega
              have HQ := hid hq
              clear hq
              go_wp2
              go_quiet (fail)
              go_wp2
              first
                | go_roundw
                | refine ⟨?rel, ?measure⟩
              case rel =>
                refine ⟨j + 1, by omega, by go_num, hid (HXV.out.drewN _), hid fun z hz => ?_⟩
                rw [take_snoc' HY.out] at hz
                rcases List.mem_append.1 hz with hz | hz
                · exact HJ.out z hz
                · rw [List.mem_singleton] at hz
                  subst hz
                  simp [eqBs, HQ.out]
              case measure => simp [intOf]; omega
          · obtain rfl : j = k := by omega
            have he : Hid (r = chkGo (l.take (j + 1)) (l.drop (j + 1))) := hid (by
              have hg : ¬ (l.take j).any (eqBs x.addr) = true := fun h => by
                obtain ⟨y, hy, h⟩ := List.any_eq_true.1 h
                rw [HJ.out y hy] at h
                cases h
              have h : errAt (l.take j) x = 0 := by rw [errAt, if_neg (by rw [HFF.out]; simp), if_neg hg]
              rw [HST.out, if_pos h])
            go_wp2
            first
              | go_roundw
              | refine ⟨?rel, ?measure⟩
            case rel => exact ⟨j + 1, by omega, by go_num, HXW, he⟩
            case measure => simp [intOf]; omega
    · obtain rfl : k = n := by omega
      have he : Hid (r = 0) := hid (by rw [HK.out, List.drop_of_length_le (by have := HLN.out; omega)]; rfl)
      go_wp2
      go_ret
      rw [he.out]
      exact ⟨rfl, HX.out⟩
end Go.Proofs.YtnlmhnbogleijaaGreatDoor

namespace Go.Proofs.YtnlmhnbogleijaaGreatDoor
open Go.RowKit Go.Deco
set_option linter.unusedSimpArgs false
set_option linter.unusedVariables false
set_option maxRecDepth 100000

end Go.Proofs.YtnlmhnbogleijaaGreatDoor
