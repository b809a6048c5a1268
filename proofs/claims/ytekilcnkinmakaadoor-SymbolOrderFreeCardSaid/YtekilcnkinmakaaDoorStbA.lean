/- The library's stable sort at symbols: swapRange, rotate. -/
import Derived.Test.YtekilcnkinmakaaDoorStbQ
import Derived.Test.YtekilcnkinmakaaDoorSymC
import Derived.Test.YtekilcnkinmakaaDoorSplit
import Derived.Test.YtekilcnkinmakaaDoorRows
import Derived.Deep.QuietTactic
import Derived.Deep.CutRange
import Derived.Test.YtekilcnkinmakaaDoorReg
namespace Go.Proofs.YtekilcnkinmakaaDoor
open Go.RowKit Go.Deco
set_option linter.unusedSimpArgs false
set_option linter.unusedVariables false

theorem keepT {a w : World} (_ : Ext a w) : True := trivial
/-- The row sorted: what a step of the sort leaves. -/
def RowS (wo : World) (g n c : Nat) (D : List Sy) (e : Ending) (w' : World) : Prop := e = .returned (.tuple #[]) ∧ Ext wo w' ∧ OwnS symR w' wo.heap.size 27 All (.slice (some ⟨g, 0, none⟩) n c) D

set_option maxRecDepth 100000 in
set_option maxHeartbeats 4000000 in
theorem swapr_any (wo w : World) (g n c : Nat) (D : List Sy) (hx : Ext wo w) (ho : OwnS symR w wo.heap.size 27 All (.slice (some ⟨g, 0, none⟩) n c) D) (a b m : Nat) (hab : a + m ≤ b) (hb : b + m ≤ n) (hn : n ≤ 1000000) (F : Value) (D' : List Sy) (hD : ∀ E, Swp D a b m E → E = D') :
    Calls Tryd.prog 79 #[.slice (some ⟨g, 0, none⟩) n c, .int .i64 a, .int .i64 b, .int .i64 m, F] w (RowS wo g n c D') := by
  have hln := ho.len
  have hgw : wo.heap.size ≤ g := (ho.block g rfl).1
  have HLN := hid hln
  have HO := hid ho
  have HX := hid hx
  have HD := hid hD
  clear ho hx hD hln
  go_enter Tryd.func79, Tryd.ntmps79
  go_wp2
  go_loopw [10] (fun i wr => ∃ (k : Nat) (E : List Sy), k ≤ m ∧ i = .int .i64 k ∧ Hid (Swp D a b k E) ∧ Hid (OwnS symR wr wo.heap.size 27 All (.slice (some ⟨g, 0, none⟩) n c) E) ∧ Hid (Ext wo wr)) (fun i _ => m - (intOf i).toNat)
  case atStart => exact ⟨0, D, by omega, rfl, hid (Swp.start D a b), HO, HX⟩
  case round =>
    obtain ⟨k, E, hk, rfl, HS, HE, HXR⟩ := hrel
    by_cases h1 : k < m
    · obtain ⟨x, hx⟩ : ∃ x, D[b + k]? = some x := ⟨_, List.getElem?_eq_getElem (by have := HLN.out; omega)⟩
      obtain ⟨y, hy⟩ : ∃ y, D[a + k]? = some y := ⟨_, List.getElem?_eq_getElem (by have := HLN.out; omega)⟩
      have ex : E[b + k]? = some x := by rw [HS.out.at2 hab h1]; exact hx
      have ey : E[a + k]? = some y := by rw [HS.out.at1 hab h1]; exact hy
      obtain ⟨⟨x0, x1, x2⟩, f0, f1, f2⟩ := sym_cells HE.out ex
      obtain ⟨⟨y0, y1, y2⟩, g0, g1, g2⟩ := sym_cells HE.out ey
      have HST := hid (HS.out.step hab h1 hx hy)
      have w1 : IntKind.i64.wrap ((a : Int) + (k : Int)) = ((a + k : Nat) : Int) := by rw [IntWalk.i64_in _ (by omega)]; omega
      have w2 : IntKind.i64.wrap ((b : Int) + (k : Int)) = ((b + k : Nat) : Int) := by rw [IntWalk.i64_in _ (by omega)]; omega
      obtain ⟨p, hp⟩ : ∃ p, a + k = p := ⟨_, rfl⟩
      obtain ⟨q, hq⟩ : ∃ q, b + k = q := ⟨_, rfl⟩
      have hp1 : p < n := by omega
      have hq1 : q < n := by omega
      have hpq : p ≠ q := by omega
      rw [hp] at w1 ey y0 y1 y2 g0 g1 g2 HST
      rw [hq] at w2 ex x0 x1 x2 f0 f1 f2 HST
      have i1 : (0 : Int) ≤ (p : Int) := by omega
      have i2 : (p : Int) < (n : Int) := by omega
      have i3 : (0 : Int) ≤ (q : Int) := by omega
      have i4 : (q : Int) < (n : Int) := by omega
      clear hp hq hx hy
      have hokx := symP.own_ok HE.out x (List.mem_of_getElem? ex)
      have hoky := symP.own_ok HE.out y (List.mem_of_getElem? ey)
      obtain ⟨W1, hW1⟩ : ∃ W1, ((wr.setCell ⟨g, p * 3, none⟩ (.string x.name)).setCell ⟨g, p * 3 + 1, none⟩ (.int .u32 x.addr)).setCell ⟨g, p * 3 + 2, none⟩ (.int .i64 x.kind) = W1 := ⟨_, rfl⟩
      have ho1 := sym_put HE.out ey hokx
      rw [hW1] at ho1
      have ex1 : (E.set p x)[q]? = some x := by rw [List.getElem?_set_ne hpq]; exact ex
      obtain ⟨⟨u0, u1, u2⟩, v0, v1, v2⟩ := sym_cells ho1 ex1
      obtain ⟨W2, hW2⟩ : ∃ W2, ((W1.setCell ⟨g, q * 3, none⟩ (.string y.name)).setCell ⟨g, q * 3 + 1, none⟩ (.int .u32 y.addr)).setCell ⟨g, q * 3 + 2, none⟩ (.int .i64 y.kind) = W2 := ⟨_, rfl⟩
      have ho2 := sym_put ho1 ex1 hoky
      rw [hW2] at ho2
      have hx1 : Ext wo W1 := by rw [← hW1]; exact ((HXR.out.setCell (p := ⟨g, p * 3, none⟩) hgw _).setCell (p := ⟨g, p * 3 + 1, none⟩) hgw _).setCell (p := ⟨g, p * 3 + 2, none⟩) hgw _
      have hx2 : Ext wo W2 := by rw [← hW2]; exact ((hx1.setCell (p := ⟨g, q * 3, none⟩) hgw _).setCell (p := ⟨g, q * 3 + 1, none⟩) hgw _).setCell (p := ⟨g, q * 3 + 2, none⟩) hgw _
      have HO2 := hid ho2
      have HX2 := hid hx2
      clear hokx hoky ho1 ex1 ho2 hx1 hx2
      go_upto_region 3 with fail
      have HXg2q_0 := hid ((Ext.refl wr).drew)
      refine wp_region_held_drew (S := (fun w' => True)) (by kernel_rfl) trivial (fun hSg2q0 => ?_)
      refine wpAnyH_takeL (i := 0) (v := ?g2qv0x1) rfl (by kernel_rfl) (by kernel_rfl) (by kernel_rfl) (fun _ _ _ h => h) (Or.inl ⟨by rfl, ?g2qy0x1⟩) (by assumption) ?g2qr0x1
      case g2qy0x1 => first | (intro w hSw; (try dsimp only at hSw); go_simp; done) | (intro w hSw; (try dsimp only at hSw); go_simp; with_reducible rfl)
      case' g2qr0x1 => try simp only [Act.put, List.setIfInBounds_toArray, List.set_cons_zero, List.set_cons_succ]
      refine wpAnyH_takeL (i := 1) (v := ?g2qv1x2) rfl (by kernel_rfl) (by kernel_rfl) (by kernel_rfl) (fun _ _ _ h => h) (Or.inl ⟨by rfl, ?g2qy1x2⟩) (by assumption) ?g2qr1x2
      case g2qy1x2 => first | (intro w hSw; (try dsimp only at hSw); go_simp; done) | (intro w hSw; (try dsimp only at hSw); go_simp; with_reducible rfl)
      case' g2qr1x2 => try simp only [Act.put, List.setIfInBounds_toArray, List.set_cons_zero, List.set_cons_succ]
      refine wpAnyH_takeL (i := 2) (v := ?g2qv2x3) rfl (by kernel_rfl) (by kernel_rfl) (by kernel_rfl) (fun _ _ _ h => h) (Or.inl ⟨by rfl, ?g2qy2x3⟩) (by assumption) ?g2qr2x3
      case g2qy2x3 => first | (intro w hSw; (try dsimp only at hSw); go_simp; done) | (intro w hSw; (try dsimp only at hSw); go_simp; with_reducible rfl)
      case' g2qr2x3 => try simp only [Act.put, List.setIfInBounds_toArray, List.set_cons_zero, List.set_cons_succ]
      refine wpAnyH_takeL (i := 3) (v := ?g2qv3x4) rfl (by kernel_rfl) (by kernel_rfl) (by kernel_rfl) (fun _ _ _ h => h) (Or.inl ⟨by rfl, ?g2qy3x4⟩) (by assumption) ?g2qr3x4
      case g2qy3x4 => first | (intro w hSw; (try dsimp only at hSw); go_simp; done) | (intro w hSw; (try dsimp only at hSw); go_simp; with_reducible rfl)
      case' g2qr3x4 => try simp only [Act.put, List.setIfInBounds_toArray, List.set_cons_zero, List.set_cons_succ]
      refine wpAnyH_takeL (i := 4) (v := ?g2qv4x5) rfl (by kernel_rfl) (by kernel_rfl) (by kernel_rfl) (fun _ _ _ h => h) (Or.inl ⟨by rfl, ?g2qy4x5⟩) (by assumption) ?g2qr4x5
      case g2qy4x5 => first | (intro w hSw; (try dsimp only at hSw); go_simp; done) | (intro w hSw; (try dsimp only at hSw); go_simp; with_reducible rfl)
      case' g2qr4x5 => try simp only [Act.put, List.setIfInBounds_toArray, List.set_cons_zero, List.set_cons_succ]
      refine wpAnyH_takeL (i := 5) (v := ?g2qv5x6) rfl (by kernel_rfl) (by kernel_rfl) (by kernel_rfl) (fun _ _ _ h => h) (Or.inl ⟨by rfl, ?g2qy5x6⟩) (by assumption) ?g2qr5x6
      case g2qy5x6 => first | (intro w hSw; (try dsimp only at hSw); go_simp; done) | (intro w hSw; (try dsimp only at hSw); go_simp; with_reducible rfl)
      case' g2qr5x6 => try simp only [Act.put, List.setIfInBounds_toArray, List.set_cons_zero, List.set_cons_succ]
      refine wpAnyH_takeL (i := 6) (v := ?g2qv6x7) rfl (by kernel_rfl) (by kernel_rfl) (by kernel_rfl) (fun _ _ _ h => h) (Or.inl ⟨by rfl, ?g2qy6x7⟩) (by assumption) ?g2qr6x7
      case g2qy6x7 => first | (intro w hSw; (try dsimp only at hSw); go_simp; done) | (intro w hSw; (try dsimp only at hSw); go_simp; with_reducible rfl)
      case' g2qr6x7 => try simp only [Act.put, List.setIfInBounds_toArray, List.set_cons_zero, List.set_cons_succ]
      refine wpAnyH_takeL (i := 7) (v := ?g2qv7x8) rfl (by kernel_rfl) (by kernel_rfl) (by kernel_rfl) (fun _ _ _ h => h) (Or.inl ⟨by rfl, ?g2qy7x8⟩) (by assumption) ?g2qr7x8
      case g2qy7x8 => first | (intro w hSw; (try dsimp only at hSw); go_simp; done) | (intro w hSw; (try dsimp only at hSw); go_simp; with_reducible rfl)
      case' g2qr7x8 => try simp only [Act.put, List.setIfInBounds_toArray, List.set_cons_zero, List.set_cons_succ]
      refine wpAnyH_takeL (i := 8) (v := ?g2qv8x9) rfl (by kernel_rfl) (by kernel_rfl) (by kernel_rfl) (fun _ _ _ h => h) (Or.inl ⟨by rfl, ?g2qy8x9⟩) (by assumption) ?g2qr8x9
      case g2qy8x9 => first | (intro w hSw; (try dsimp only at hSw); go_simp; done) | (intro w hSw; (try dsimp only at hSw); go_simp; with_reducible rfl)
      case' g2qr8x9 => try simp only [Act.put, List.setIfInBounds_toArray, List.set_cons_zero, List.set_cons_succ]
      refine wpAnyH_takeL (i := 9) (v := ?g2qv9x10) rfl (by kernel_rfl) (by kernel_rfl) (by kernel_rfl) (fun _ _ _ h => h) (Or.inl ⟨by rfl, ?g2qy9x10⟩) (by assumption) ?g2qr9x10
      case g2qy9x10 => first | (intro w hSw; (try dsimp only at hSw); go_simp; done) | (intro w hSw; (try dsimp only at hSw); go_simp; with_reducible rfl)
      case' g2qr9x10 => try simp only [Act.put, List.setIfInBounds_toArray, List.set_cons_zero, List.set_cons_succ]
      refine wpAnyH_takeL (i := 10) (v := ?g2qv10x11) rfl (by kernel_rfl) (by kernel_rfl) (by kernel_rfl) (fun _ _ _ h => h) (Or.inl ⟨by rfl, ?g2qy10x11⟩) (by assumption) ?g2qr10x11
      case g2qy10x11 => first | (intro w hSw; (try dsimp only at hSw); go_simp; done) | (intro w hSw; (try dsimp only at hSw); go_simp; with_reducible rfl)
      case' g2qr10x11 => try simp only [Act.put, List.setIfInBounds_toArray, List.set_cons_zero, List.set_cons_succ]
      refine wpAnyH_takeL (i := 11) (v := ?g2qv11x12) rfl (by kernel_rfl) (by kernel_rfl) (by kernel_rfl) (fun _ _ _ h => h) (Or.inl ⟨by rfl, ?g2qy11x12⟩) (by assumption) ?g2qr11x12
      case g2qy11x12 => first | (intro w hSw; (try dsimp only at hSw); go_simp; done) | (intro w hSw; (try dsimp only at hSw); go_simp; with_reducible rfl)
      case' g2qr11x12 => try simp only [Act.put, List.setIfInBounds_toArray, List.set_cons_zero, List.set_cons_succ]
      refine wpAnyH_takeL (i := 12) (v := ?g2qv12x13) rfl (by kernel_rfl) (by kernel_rfl) (by kernel_rfl) (fun _ _ _ h => h) (Or.inl ⟨by rfl, ?g2qy12x13⟩) (by assumption) ?g2qr12x13
      case g2qy12x13 => first | (intro w hSw; (try dsimp only at hSw); go_simp; done) | (intro w hSw; (try dsimp only at hSw); go_simp; with_reducible rfl)
      case' g2qr12x13 => try simp only [Act.put, List.setIfInBounds_toArray, List.set_cons_zero, List.set_cons_succ]
      refine wpAnyH_takeL (i := 14) (v := ?g2qv14x14) rfl (by kernel_rfl) (by kernel_rfl) (by kernel_rfl) (fun _ _ _ h => h) (Or.inl ⟨by rfl, ?g2qy14x14⟩) (by assumption) ?g2qr14x14
      case g2qy14x14 => first | (intro w hSw; (try dsimp only at hSw); go_simp; done) | (intro w hSw; (try dsimp only at hSw); go_simp; with_reducible rfl)
      case' g2qr14x14 => try simp only [Act.put, List.setIfInBounds_toArray, List.set_cons_zero, List.set_cons_succ]
      refine wpAnyH_takeL (i := 15) (v := ?g2qv15x15) rfl (by kernel_rfl) (by kernel_rfl) (by kernel_rfl) (fun _ _ _ h => h) (Or.inl ⟨by rfl, ?g2qy15x15⟩) (by assumption) ?g2qr15x15
      case g2qy15x15 => first | (intro w hSw; (try dsimp only at hSw); go_simp; done) | (intro w hSw; (try dsimp only at hSw); go_simp; with_reducible rfl)
      case' g2qr15x15 => try simp only [Act.put, List.setIfInBounds_toArray, List.set_cons_zero, List.set_cons_succ]
      refine wpAnyH_takeL (i := 16) (v := ?g2qv16x16) rfl (by kernel_rfl) (by kernel_rfl) (by kernel_rfl) (fun _ _ _ h => h) (Or.inl ⟨by rfl, ?g2qy16x16⟩) (by assumption) ?g2qr16x16
      case g2qy16x16 => first | (intro w hSw; (try dsimp only at hSw); go_simp; done) | (intro w hSw; (try dsimp only at hSw); go_simp; with_reducible rfl)
      case' g2qr16x16 => try simp only [Act.put, List.setIfInBounds_toArray, List.set_cons_zero, List.set_cons_succ]
      refine wpAnyH_takeL (i := 17) (v := ?g2qv17x17) rfl (by kernel_rfl) (by kernel_rfl) (by kernel_rfl) (fun _ _ _ h => h) (Or.inl ⟨by rfl, ?g2qy17x17⟩) (by assumption) ?g2qr17x17
      case g2qy17x17 => first | (intro w hSw; (try dsimp only at hSw); go_simp; done) | (intro w hSw; (try dsimp only at hSw); go_simp; with_reducible rfl)
      case' g2qr17x17 => try simp only [Act.put, List.setIfInBounds_toArray, List.set_cons_zero, List.set_cons_succ]
      refine wpAnyH_takeL (i := 18) (v := ?g2qv18x18) rfl (by kernel_rfl) (by kernel_rfl) (by kernel_rfl) (fun _ _ _ h => h) (Or.inl ⟨by rfl, ?g2qy18x18⟩) (by assumption) ?g2qr18x18
      case g2qy18x18 => first | (intro w hSw; (try dsimp only at hSw); go_simp; done) | (intro w hSw; (try dsimp only at hSw); go_simp; with_reducible rfl)
      case' g2qr18x18 => try simp only [Act.put, List.setIfInBounds_toArray, List.set_cons_zero, List.set_cons_succ]
      refine wpAnyH_ready (rs := [13, 19]) (by kernel_rfl) (by simp) ?_
      refine (AllReadyH.consL rfl (fun K hK => ?g2qb13x19) (AllReadyH.consL rfl (fun K hK => ?g2qb19x19) AllReadyH.nil))
      case' g2qb13x19 =>
        have hEg2q1 := Ext.refl wr.drew
        go_simp
        have HXg2q_1 := hid (HXg2q_0.out.trans hEg2q1)
        clear hEg2q1
        refine hK.out _ _ (keepT HXg2q_1.out) (fun hSg2q1 => ?_)
        clear hK K
        try simp only [Act.put, List.setIfInBounds_toArray, List.set_cons_zero, List.set_cons_succ]
        refine wpAnyH_ready (rs := [19]) (by kernel_rfl) (by simp) ?_
        refine (AllReadyH.consL rfl (fun K hK => ?g2qb19x20) AllReadyH.nil)
        case' g2qb19x20 =>
          have hEg2q2 := Ext.refl wr.drew
          go_simp
          have HXg2q_2 := hid (HXg2q_1.out.trans hEg2q2)
          clear hEg2q2
          refine hK.out _ _ (keepT HXg2q_2.out) (fun hSg2q2 => ?_)
          clear hK K
          try simp only [Act.put, List.setIfInBounds_toArray, List.set_cons_zero, List.set_cons_succ]
          refine wpAnyH_takeL (i := 20) (v := ?g2qv20x21) rfl (by kernel_rfl) (by kernel_rfl) (by kernel_rfl) (fun _ _ _ h => h) (Or.inl ⟨by rfl, ?g2qy20x21⟩) (by assumption) ?g2qr20x21
          case g2qy20x21 => first | (intro w hSw; (try dsimp only at hSw); go_simp; done) | (intro w hSw; (try dsimp only at hSw); go_simp; with_reducible rfl)
          case' g2qr20x21 => try simp only [Act.put, List.setIfInBounds_toArray, List.set_cons_zero, List.set_cons_succ]
          refine wpAnyH_ready (rs := [21]) (by kernel_rfl) (by simp) ?_
          refine (AllReadyH.consL rfl (fun K hK => ?g2qb21x22) AllReadyH.nil)
          case' g2qb21x22 =>
            go_simp
            refine hK.out _ _ trivial (fun hSg2q3 => ?_)
            clear hK K
            try simp only [Act.put, List.setIfInBounds_toArray, List.set_cons_zero, List.set_cons_succ]
            refine wpAnyH_takeL (i := 22) (v := ?g2qv22x23) rfl (by kernel_rfl) (by kernel_rfl) (by kernel_rfl) (fun _ _ _ h => h) (Or.inl ⟨by rfl, ?g2qy22x23⟩) (by assumption) ?g2qr22x23
            case g2qy22x23 => first | (intro w hSw; (try dsimp only at hSw); go_simp; done) | (intro w hSw; (try dsimp only at hSw); go_simp; with_reducible rfl)
            case' g2qr22x23 => try simp only [Act.put, List.setIfInBounds_toArray, List.set_cons_zero, List.set_cons_succ]
            refine wpAnyH_ready (rs := [23]) (by kernel_rfl) (by simp) ?_
            refine (AllReadyH.consL rfl (fun K hK => ?g2qb23x24) AllReadyH.nil)
            case' g2qb23x24 =>
              go_simp
              refine hK.out _ _ trivial (fun hSg2q4 => ?_)
              clear hK K
              try simp only [Act.put, List.setIfInBounds_toArray, List.set_cons_zero, List.set_cons_succ]
              refine wpAnyH_done (by kernel_rfl) ?_ _
              go_wp2
              first
                | go_roundw
                | refine ⟨?rel, ?measure⟩
              case rel => exact ⟨k + 1, _, by omega, by go_num, HST, hid HO2.out.dr, hid HX2.out.drew⟩
              case measure => simp [intOf]; omega
      case' g2qb19x19 =>
        have hEg2q1 := Ext.refl wr.drew
        go_simp
        have HXg2q_1 := hid (HXg2q_0.out.trans hEg2q1)
        clear hEg2q1
        refine hK.out _ _ (keepT HXg2q_1.out) (fun hSg2q1 => ?_)
        clear hK K
        try simp only [Act.put, List.setIfInBounds_toArray, List.set_cons_zero, List.set_cons_succ]
        refine wpAnyH_ready (rs := [13]) (by kernel_rfl) (by simp) ?_
        refine (AllReadyH.consL rfl (fun K hK => ?g2qb13x25) AllReadyH.nil)
        case' g2qb13x25 =>
          have hEg2q2 := Ext.refl wr.drew
          go_simp
          have HXg2q_2 := hid (HXg2q_1.out.trans hEg2q2)
          clear hEg2q2
          refine hK.out _ _ (keepT HXg2q_2.out) (fun hSg2q2 => ?_)
          clear hK K
          try simp only [Act.put, List.setIfInBounds_toArray, List.set_cons_zero, List.set_cons_succ]
          refine wpAnyH_takeL (i := 20) (v := ?g2qv20x26) rfl (by kernel_rfl) (by kernel_rfl) (by kernel_rfl) (fun _ _ _ h => h) (Or.inl ⟨by rfl, ?g2qy20x26⟩) (by assumption) ?g2qr20x26
          case g2qy20x26 => first | (intro w hSw; (try dsimp only at hSw); go_simp; done) | (intro w hSw; (try dsimp only at hSw); go_simp; with_reducible rfl)
          case' g2qr20x26 => try simp only [Act.put, List.setIfInBounds_toArray, List.set_cons_zero, List.set_cons_succ]
          refine wpAnyH_ready (rs := [21]) (by kernel_rfl) (by simp) ?_
          refine (AllReadyH.consL rfl (fun K hK => ?g2qb21x27) AllReadyH.nil)
          case' g2qb21x27 =>
            go_simp
            refine hK.out _ _ trivial (fun hSg2q3 => ?_)
            clear hK K
            try simp only [Act.put, List.setIfInBounds_toArray, List.set_cons_zero, List.set_cons_succ]
            refine wpAnyH_takeL (i := 22) (v := ?g2qv22x28) rfl (by kernel_rfl) (by kernel_rfl) (by kernel_rfl) (fun _ _ _ h => h) (Or.inl ⟨by rfl, ?g2qy22x28⟩) (by assumption) ?g2qr22x28
            case g2qy22x28 => first | (intro w hSw; (try dsimp only at hSw); go_simp; done) | (intro w hSw; (try dsimp only at hSw); go_simp; with_reducible rfl)
            case' g2qr22x28 => try simp only [Act.put, List.setIfInBounds_toArray, List.set_cons_zero, List.set_cons_succ]
            refine wpAnyH_ready (rs := [23]) (by kernel_rfl) (by simp) ?_
            refine (AllReadyH.consL rfl (fun K hK => ?g2qb23x29) AllReadyH.nil)
            case' g2qb23x29 =>
              go_simp
              refine hK.out _ _ trivial (fun hSg2q4 => ?_)
              clear hK K
              try simp only [Act.put, List.setIfInBounds_toArray, List.set_cons_zero, List.set_cons_succ]
              refine wpAnyH_done (by kernel_rfl) ?_ _
              go_wp2
              first
                | go_roundw
                | refine ⟨?rel, ?measure⟩
              case rel => exact ⟨k + 1, _, by omega, by go_num, HST, hid HO2.out.dr, hid HX2.out.drew⟩
              case measure => simp [intOf]; omega
    · obtain rfl : k = m := by omega
      go_wp2
      (try simp only [Exit.inBlock, Exit.then])
      refine bodyPost_ret (results_none rfl _ _ _) rfl ?_
      refine ⟨rfl, HXR.out, ?_⟩
      have h := HE.out
      rw [HD.out E HS.out] at h
      exact h

theorem swapp_any (wo w : World) (g n c : Nat) (P X M Y Q : List Sy) (hx : Ext wo w) (ho : OwnS symR w wo.heap.size 27 All (.slice (some ⟨g, 0, none⟩) n c) (P ++ (X ++ (M ++ (Y ++ Q))))) (hxy : Y.length = X.length) (hn : n ≤ 1000000) (F : Value) (a b m : Nat) (ha : a = P.length) (hb : b = P.length + X.length + M.length) (hm : m = X.length) :
    Calls Tryd.prog 79 #[.slice (some ⟨g, 0, none⟩) n c, .int .i64 a, .int .i64 b, .int .i64 m, F] w (RowS wo g n c (P ++ (Y ++ (M ++ (X ++ Q))))) := by
  have hln := ho.len
  simp only [List.length_append] at hln
  refine swapr_any wo w g n c _ hx ho a b m (by omega) (by omega) hn F _ fun E hE => ?_
  rw [ha, hb, hm] at hE
  exact hE.fin hxy

set_option maxRecDepth 100000 in
set_option maxHeartbeats 4000000 in
theorem rotate_any (wo w : World) (g n c : Nat) (P A B Q : List Sy) (hx : Ext wo w) (ho : OwnS symR w wo.heap.size 27 All (.slice (some ⟨g, 0, none⟩) n c) (P ++ (A ++ (B ++ Q)))) (hA : A ≠ []) (hB : B ≠ []) (hn : n ≤ 1000000) (F : Value) (a m b : Nat) (ha : a = P.length) (hm : m = P.length + A.length) (hb : b = P.length + A.length + B.length) :
    Calls Tryd.prog 73 #[.slice (some ⟨g, 0, none⟩) n c, .int .i64 a, .int .i64 m, .int .i64 b, F] w (RowS wo g n c (P ++ (B ++ (A ++ Q)))) := by
  have hln := ho.len
  simp only [List.length_append] at hln
  have hA0 : 0 < A.length := List.length_pos_iff.2 hA
  have hB0 : 0 < B.length := List.length_pos_iff.2 hB
  obtain ⟨i0, hi0⟩ : ∃ i0, A.length = i0 := ⟨_, rfl⟩
  obtain ⟨j0, hj0⟩ : ∃ j0, B.length = j0 := ⟨_, rfl⟩
  rw [hi0] at hA0 hm hb hln
  rw [hj0] at hB0 hb hln
  obtain ⟨D, hD⟩ : ∃ D, P ++ (B ++ (A ++ Q)) = D := ⟨_, rfl⟩
  rw [hD]
  have HO := hid ho
  have HX := hid hx
  have HI0 := hid hi0
  have HJ0 := hid hj0
  have HD := hid hD
  have HP := hid ha
  have w1 : IntKind.i64.wrap ((m : Int) - (a : Int)) = (i0 : Int) := by rw [IntWalk.i64_in _ (by omega)]; omega
  have w2 : IntKind.i64.wrap ((b : Int) - (m : Int)) = (j0 : Int) := by rw [IntWalk.i64_in _ (by omega)]; omega
  have hmn : m ≤ 1000000 := by omega
  have hbn : b ≤ n := by omega
  have hmi : i0 ≤ m := by omega
  have hmj : m + j0 ≤ n := by omega
  have HMA : Hid (m = a + i0) := hid (by omega)
  clear ho hx hD ha hi0 hj0 hln hm hb hA hB
  go_enter Tryd.func73, Tryd.ntmps73
  go_wp2
  clear w1 w2
  go_loopw [10, 11] (fun s10 s11 wr => ∃ (i j : Nat) (P' A' B' Q' : List Sy), 0 < i ∧ 0 < j ∧ i ≤ m ∧ m + j ≤ n ∧ s10 = .int .i64 i ∧ s11 = .int .i64 j ∧ Hid (A'.length = i) ∧ Hid (B'.length = j) ∧ Hid (P'.length + i = m) ∧ Hid (P' ++ (B' ++ (A' ++ Q')) = D) ∧
    Hid (OwnS symR wr wo.heap.size 27 All (.slice (some ⟨g, 0, none⟩) n c) (P' ++ (A' ++ (B' ++ Q')))) ∧ Hid (Ext wo wr)) (fun s10 s11 _ => (intOf s10).toNat + (intOf s11).toNat)
  case atStart => exact ⟨i0, j0, P, A, B, Q, hA0, hB0, hmi, hmj, rfl, rfl, HI0, HJ0, hid (by have := HP.out; have := HMA.out; omega), HD, HO, HX⟩
  case round =>
    obtain ⟨i, j, P', A', B', Q', hi, hj, him, hjn, rfl, rfl, HA, HB, HPL, HDD, HO1, HX1⟩ := hrel
    have w3 : IntKind.i64.wrap ((m : Int) - (i : Int)) = ((m - i : Nat) : Int) := by rw [IntWalk.i64_in _ (by omega)]; omega
    rcases Nat.lt_trichotomy i j with h1 | h1 | h1
    · have n1 : ((i : Int) != (j : Int)) = true := by simp; omega
      have w4 : IntKind.i64.wrap ((m : Int) + (j : Int)) = ((m + j : Nat) : Int) := by rw [IntWalk.i64_in _ (by omega)]; omega
      have w5 : IntKind.i64.wrap (((m + j : Nat) : Int) - (i : Int)) = ((m + j - i : Nat) : Int) := by rw [IntWalk.i64_in _ (by omega)]; omega
      have w6 : IntKind.i64.wrap ((j : Int) - (i : Int)) = ((j - i : Nat) : Int) := by rw [IntWalk.i64_in _ (by omega)]; omega
      obtain ⟨u, hu⟩ : ∃ u, m + j = u := ⟨_, rfl⟩
      obtain ⟨v, hv⟩ : ∃ v, u - i = v := ⟨_, rfl⟩
      obtain ⟨t, ht⟩ : ∃ t, m - i = t := ⟨_, rfl⟩
      obtain ⟨z, hz⟩ : ∃ z, j - i = z := ⟨_, rfl⟩
      rw [hu] at w4 w5
      rw [hv] at w5
      rw [ht] at w3
      rw [hz] at w6
      have HS := hid (swapp_any wo wr g n c P' A' (B'.take (j - i)) (B'.drop (j - i)) Q' HX1.out (by have h := HO1.out; rw [cut2 B' (j - i), List.append_assoc] at h; simpa using h) (by rw [List.length_drop]; have := HA.out; have := HB.out; omega) hn F t v i (by have := HPL.out; omega) (by rw [List.length_take]; have := HA.out; have := HB.out; have := HPL.out; omega) HA.out.symm)
      have HZ := hid hz
      have hz1 : 0 < z := by omega
      have hz2 : m + z ≤ n := by omega
      have hz3 : z < j := by omega
      clear hu hv ht hz
      go_wp2_with fail
      refine (HS.out).mono ?_
      rintro e w5 ⟨rfl, hx5, ho5⟩
      have HX5 := hid hx5
      have HO5 := hid ho5
      clear hx5 ho5
      go_wp2
      first
        | go_roundw
        | refine ⟨?rel, ?measure⟩
      case rel =>
        refine ⟨i, z, P', B'.drop (j - i), B'.take (j - i), A' ++ Q', hi, hz1, him, hz2, rfl, by first | rfl | go_num, hid (by rw [List.length_drop]; have := HB.out; omega), hid (by rw [List.length_take]; have := HB.out; have := HZ.out; omega), HPL, hid ?_, hid (by simpa using HO5.out), HX5⟩
        rw [← HDD.out, ← List.append_assoc (B'.take (j - i)), List.take_append_drop]
      case measure => simp [intOf]; omega
    · subst h1
      have n1 : ((i : Int) != (i : Int)) = false := by simp
      obtain ⟨t, ht⟩ : ∃ t, m - i = t := ⟨_, rfl⟩
      rw [ht] at w3
      have HS := hid (swapp_any wo wr g n c P' A' [] B' Q' HX1.out HO1.out (by have := HA.out; have := HB.out; omega) hn F t m i (by have := HPL.out; omega) (by have := HPL.out; have := HA.out; simp; omega) HA.out.symm)
      rw [List.nil_append] at HS
      clear ht
      go_wp2_with fail
      refine (HS.out).mono ?_
      rintro e w5 ⟨rfl, hx5, ho5⟩
      rw [HDD.out] at ho5
      have HX5 := hid hx5
      have HO5 := hid ho5
      clear hx5 ho5
      go_wp2
      (try simp only [Exit.inBlock, Exit.then])
      refine bodyPost_ret (results_none rfl _ _ _) rfl ?_
      exact ⟨rfl, HX5.out, HO5.out⟩
    · have n1 : ((i : Int) != (j : Int)) = true := by simp; omega
      have w6 : IntKind.i64.wrap ((i : Int) - (j : Int)) = ((i - j : Nat) : Int) := by rw [IntWalk.i64_in _ (by omega)]; omega
      obtain ⟨t, ht⟩ : ∃ t, m - i = t := ⟨_, rfl⟩
      obtain ⟨z, hz⟩ : ∃ z, i - j = z := ⟨_, rfl⟩
      rw [ht] at w3
      rw [hz] at w6
      have HS := hid (swapp_any wo wr g n c P' (A'.take j) (A'.drop j) B' Q' HX1.out (by have h := HO1.out; rw [cut2 A' j, List.append_assoc] at h; simpa using h) (by rw [List.length_take]; have := HA.out; have := HB.out; omega) hn F t m j (by have := HPL.out; omega) (by rw [List.length_take, List.length_drop]; have := HA.out; have := HPL.out; omega) (by rw [List.length_take]; have := HA.out; omega))
      have HZ := hid hz
      have hz1 : 0 < z := by omega
      have hz2 : z ≤ m := by omega
      have hz3 : z < i := by omega
      clear ht hz
      go_wp2_with fail
      refine (HS.out).mono ?_
      rintro e w5 ⟨rfl, hx5, ho5⟩
      have HX5 := hid hx5
      have HO5 := hid ho5
      clear hx5 ho5
      go_wp2
      first
        | go_roundw
        | refine ⟨?rel, ?measure⟩
      case rel =>
        refine ⟨z, j, P' ++ B', A'.drop j, A'.take j, Q', hz1, hj, hz2, hjn, by first | rfl | go_num, rfl, hid (by rw [List.length_drop]; have := HA.out; have := HZ.out; omega), hid (by rw [List.length_take]; have := HA.out; omega), hid (by rw [List.length_append]; have := HPL.out; have := HB.out; have := HZ.out; omega), hid ?_, hid (by simpa using HO5.out), HX5⟩
        rw [← HDD.out, List.append_assoc, ← List.append_assoc (A'.take j), List.take_append_drop]
      case measure => simp [intOf]; omega
end Go.Proofs.YtekilcnkinmakaaDoor
