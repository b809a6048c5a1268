/- The library's stable sort at symbols: insertion sort. -/
import Derived.Test.YtekilcnkinmakaaDoorStbA
namespace Go.Proofs.YtekilcnkinmakaaDoor
open Go.RowKit Go.Deco
set_option linter.unusedSimpArgs false
set_option linter.unusedVariables false

theorem call_syord : ∀ args w, (callFunc 37 args).run Tryd.prog w = .ok (.enter 37 args) w := fun args w => callFunc_enter Tryd.func37 (by kernel_rfl) rfl args w
/-- The comparison that the sort is handed. -/
theorem cmp_sy (w : World) (s t : Sy) : Calls Tryd.prog 37 #[.agg #[.string s.name, .int .u32 s.addr, .int .i64 s.kind], .agg #[.string t.name, .int .u32 t.addr, .int .i64 t.kind]] w fun e w' => (∃ z : Int, e = .returned (.int .i64 z) ∧ decide (z < 0) = ltS s t) ∧ Ext w w' :=
  (syorder_any w s t).mono fun e w' h => ⟨⟨_, h.1, rfl⟩, h.2⟩

set_option maxRecDepth 100000 in
set_option maxHeartbeats 4000000 in
theorem inscmp_any (wo w : World) (g n c : Nat) (P X Q : List Sy) (hx : Ext wo w) (ho : OwnS symR w wo.heap.size 27 All (.slice (some ⟨g, 0, none⟩) n c) (P ++ (X ++ Q))) (hn : n ≤ 1000000) (a b : Nat) (ha : a = P.length) (hb : b = P.length + X.length) :
    Calls Tryd.prog 62 #[.slice (some ⟨g, 0, none⟩) n c, .int .i64 a, .int .i64 b, .func (.func 37) #[] #[]] w (RowS wo g n c (P ++ (stab ltS X ++ Q))) := by
  have hg := call_syord
  have hln := ho.len
  simp only [List.length_append] at hln
  have hgw : wo.heap.size ≤ g := (ho.block g rfl).1
  obtain ⟨N, hN⟩ : ∃ N, X.length = N := ⟨_, rfl⟩
  rw [hN] at hb hln
  obtain ⟨b', hb'⟩ : ∃ b', a + N = b' := ⟨_, rfl⟩
  have hbb : b = b' := by omega
  subst hbb
  have HN := hid hN
  have HA := hid ha
  have HBB := hid hb'
  have hbn : b ≤ n := by omega
  have hab : a ≤ b := by omega
  have HO := hid ho
  have HX := hid hx
  have w1 : IntKind.i64.wrap ((a : Int) + 1) = ((a + 1 : Nat) : Int) := by rw [IntWalk.i64_in _ (by omega)]; omega
  obtain ⟨a1, ha1⟩ : ∃ a1, a + 1 = a1 := ⟨_, rfl⟩
  rw [ha1] at w1
  have HA1 := hid ha1
  clear ho hx hN ha hb hb' hln ha1
  go_enter Tryd.func62, Tryd.ntmps62
  go_wp2
  clear w1
  go_loopw [8] (fun i wr => ∃ (k ik : Nat), 0 < k ∧ ik ≤ n + 1 ∧ i = .int .i64 ik ∧ Hid (a + k = ik ∧ (k ≤ N ∨ k = 1)) ∧ Hid (OwnS symR wr wo.heap.size 27 All (.slice (some ⟨g, 0, none⟩) n c) (P ++ (stab ltS (X.take k) ++ (X.drop k ++ Q)))) ∧ Hid (Ext wo wr)) (fun i _ => (n + 2) - (intOf i).toNat)
  case atStart =>
    refine ⟨1, a1, by omega, by have := HA1.out; omega, rfl, hid ⟨HA1.out, .inr rfl⟩, hid ?_, HX⟩
    have h := HO.out
    cases X with
    | nil => simpa [stab] using h
    | cons x X => simpa [stab, insR] using h
  case round =>
    obtain ⟨k, ik, hk0, hik, rfl, HK, HE0, HX0⟩ := hrel
    by_cases h1 : ik < b
    · have hkN : k < N := by have := HK.out.1; have := HBB.out; omega
      obtain ⟨x, hx⟩ : ∃ x, X[k]? = some x := ⟨_, List.getElem?_eq_getElem (by have := HN.out; omega)⟩
      obtain ⟨O, hO⟩ : ∃ O, stab ltS (X.take k) = O := ⟨_, rfl⟩
      obtain ⟨R, hR⟩ : ∃ R, X.drop (k + 1) ++ Q = R := ⟨_, rfl⟩
      have hOl : O.length = k := by rw [← hO, stab_len, List.length_take]; have := HN.out; omega
      have he : P ++ (stab ltS (X.take k) ++ (X.drop k ++ Q)) = P ++ (insP O x k ++ R) := by
        rw [hO, ← hOl, insP_all, hOl, drop_cons' hx, ← hR]
        simp
      have hE1 := HE0.out
      rw [he] at hE1
      have HE1 := hid hE1
      have HOL := hid hOl
      have HOS : Hid (Srt ltS O) := hid (by rw [← hO]; exact (stab_ok weakS _).1)
      have HNX : Hid (stab ltS (X.take (k + 1)) = insR ltS x O) := hid (by rw [take_snoc' hx, stab_snoc, hO])
      have HRR := hid hR
      have HIK : Hid (a + k = ik) := hid HK.out.1
      clear hx hO hR hOl he hE1
      go_wp2
      go_loopw [9] (fun s9 wr => ∃ (p pj : Nat), p ≤ k ∧ pj ≤ ik ∧ s9 = .int .i64 pj ∧ Hid (a + p = pj) ∧ Hid (∀ q, p ≤ q → ∀ y, O[q]? = some y → ltS x y = true) ∧ Hid (OwnS symR wr wo.heap.size 27 All (.slice (some ⟨g, 0, none⟩) n c) (P ++ (insP O x p ++ R))) ∧ Hid (Ext wo wr)) (fun s9 _ => (intOf s9).toNat)
      case atStart => exact ⟨k, ik, by omega, by omega, rfl, HIK, hid (fun q hq y hy => by rw [List.getElem?_eq_none (by have := HOL.out; omega)] at hy; cases hy), HE1, HX0⟩
      case round =>
        obtain ⟨p, pj, hp, hpj, rfl, HPJ, HALL, HE, HXR⟩ := hrel
        rcases p with _ | p'
        · have hpa : pj = a := by have := HPJ.out; omega
          have d1 : decide ((pj : Int) > (a : Int)) = false := decide_eq_false (by omega)
          have d2 : decide ((a : Int) < (pj : Int)) = false := decide_eq_false (by omega)
          have d3 : decide (a < pj) = false := decide_eq_false (by omega)
          have HIN : Hid (insR ltS x O = insP O x 0) := hid (insR_insP weakS HOS.out (by omega) (fun y h => absurd rfl h) (fun q hq y hy => HALL.out q hq y hy))
          have HEND := hid HE.out.dr
          have HXD := hid HXR.out.drew
          clear hpa
          go_upto_region 4 with fail
          refine wp_region_held_drew (S := (fun w' => True)) (by kernel_rfl) trivial (fun hSg3q0 => ?_)
          refine wpAnyH_takeL (i := 0) (v := ?g3qv0) rfl (by kernel_rfl) (by kernel_rfl) (by kernel_rfl) (fun _ _ _ h => h) (Or.inl ⟨by rfl, ?g3qy0⟩) (by assumption) ?g3qr0
          case g3qy0 => first | (intro w hSw; (try dsimp only at hSw); go_simp; done) | (intro w hSw; (try dsimp only at hSw); go_simp; with_reducible rfl)
          case' g3qr0 => try simp only [Act.put, List.setIfInBounds_toArray, List.set_cons_zero, List.set_cons_succ]
          refine wpAnyH_takeL (i := 1) (v := ?g3qv1) rfl (by kernel_rfl) (by kernel_rfl) (by kernel_rfl) (fun _ _ _ h => h) (Or.inl ⟨by rfl, ?g3qy1⟩) (by assumption) ?g3qr1
          case g3qy1 => first | (intro w hSw; (try dsimp only at hSw); go_simp; done) | (intro w hSw; (try dsimp only at hSw); go_simp; with_reducible rfl)
          case' g3qr1 => try simp only [Act.put, List.setIfInBounds_toArray, List.set_cons_zero, List.set_cons_succ]
          refine wpAnyH_takeL (i := 2) (v := ?g3qv2) rfl (by kernel_rfl) (by kernel_rfl) (by kernel_rfl) (fun _ _ _ h => h) (Or.inl ⟨by rfl, ?g3qy2⟩) (by assumption) ?g3qr2
          case g3qy2 => first | (intro w hSw; (try dsimp only at hSw); go_simp; done) | (intro w hSw; (try dsimp only at hSw); go_simp; with_reducible rfl)
          case' g3qr2 => try simp only [Act.put, List.setIfInBounds_toArray, List.set_cons_zero, List.set_cons_succ]
          refine wpAnyH_takeL (i := 3) (v := ?g3qv3) rfl (by kernel_rfl) (by kernel_rfl) (by kernel_rfl) (fun _ _ _ h => h) (Or.inl ⟨by rfl, ?g3qy3⟩) (by assumption) ?g3qr3
          case g3qy3 => first | (intro w hSw; (try dsimp only at hSw); go_simp; done) | (intro w hSw; (try dsimp only at hSw); go_simp; with_reducible rfl)
          case' g3qr3 => try simp only [Act.put, List.setIfInBounds_toArray, List.set_cons_zero, List.set_cons_succ]
          refine wpAnyH_takeL (i := 4) (v := undef) rfl (by kernel_rfl) (by kernel_rfl) (by kernel_rfl) (fun _ _ _ h => h) (Or.inr ⟨by rfl, rfl⟩) (by assumption) ?g3qr4
          case' g3qr4 => try simp only [Act.put, List.setIfInBounds_toArray, List.set_cons_zero, List.set_cons_succ]
          refine wpAnyH_takeL (i := 5) (v := undef) rfl (by kernel_rfl) (by kernel_rfl) (by kernel_rfl) (fun _ _ _ h => h) (Or.inr ⟨by rfl, rfl⟩) (by assumption) ?g3qr5
          case' g3qr5 => try simp only [Act.put, List.setIfInBounds_toArray, List.set_cons_zero, List.set_cons_succ]
          refine wpAnyH_takeL (i := 6) (v := undef) rfl (by kernel_rfl) (by kernel_rfl) (by kernel_rfl) (fun _ _ _ h => h) (Or.inr ⟨by rfl, rfl⟩) (by assumption) ?g3qr6
          case' g3qr6 => try simp only [Act.put, List.setIfInBounds_toArray, List.set_cons_zero, List.set_cons_succ]
          refine wpAnyH_takeL (i := 7) (v := undef) rfl (by kernel_rfl) (by kernel_rfl) (by kernel_rfl) (fun _ _ _ h => h) (Or.inr ⟨by rfl, rfl⟩) (by assumption) ?g3qr7
          case' g3qr7 => try simp only [Act.put, List.setIfInBounds_toArray, List.set_cons_zero, List.set_cons_succ]
          refine wpAnyH_takeL (i := 8) (v := undef) rfl (by kernel_rfl) (by kernel_rfl) (by kernel_rfl) (fun _ _ _ h => h) (Or.inr ⟨by rfl, rfl⟩) (by assumption) ?g3qr8
          case' g3qr8 => try simp only [Act.put, List.setIfInBounds_toArray, List.set_cons_zero, List.set_cons_succ]
          refine wpAnyH_takeL (i := 9) (v := undef) rfl (by kernel_rfl) (by kernel_rfl) (by kernel_rfl) (fun _ _ _ h => h) (Or.inr ⟨by rfl, rfl⟩) (by assumption) ?g3qr9
          case' g3qr9 => try simp only [Act.put, List.setIfInBounds_toArray, List.set_cons_zero, List.set_cons_succ]
          refine wpAnyH_takeL (i := 10) (v := undef) rfl (by kernel_rfl) (by kernel_rfl) (by kernel_rfl) (fun _ _ _ h => h) (Or.inr ⟨by rfl, rfl⟩) (by assumption) ?g3qr10
          case' g3qr10 => try simp only [Act.put, List.setIfInBounds_toArray, List.set_cons_zero, List.set_cons_succ]
          refine wpAnyH_takeL (i := 11) (v := undef) rfl (by kernel_rfl) (by kernel_rfl) (by kernel_rfl) (fun _ _ _ h => h) (Or.inr ⟨by rfl, rfl⟩) (by assumption) ?g3qr11
          case' g3qr11 => try simp only [Act.put, List.setIfInBounds_toArray, List.set_cons_zero, List.set_cons_succ]
          refine wpAnyH_takeL (i := 12) (v := undef) rfl (by kernel_rfl) (by kernel_rfl) (by kernel_rfl) (fun _ _ _ h => h) (Or.inr ⟨by rfl, rfl⟩) (by assumption) ?g3qr12
          case' g3qr12 => try simp only [Act.put, List.setIfInBounds_toArray, List.set_cons_zero, List.set_cons_succ]
          refine wpAnyH_takeL (i := 13) (v := undef) rfl (by kernel_rfl) (by kernel_rfl) (by kernel_rfl) (fun _ _ _ h => h) (Or.inr ⟨by rfl, rfl⟩) (by assumption) ?g3qr13
          case' g3qr13 => try simp only [Act.put, List.setIfInBounds_toArray, List.set_cons_zero, List.set_cons_succ]
          refine wpAnyH_ready (rs := [14]) (by kernel_rfl) (by simp) ?_
          refine AllReadyH.consL rfl (fun K hK => ?_) AllReadyH.nil
          refine cast (if_neg (fun h => Bool.noConfusion (show false = true from h))).symm ?_
          refine hK.out _ _ (by assumption) (fun hSg3q1 => ?_)
          clear hK K
          try simp only [Act.put, List.setIfInBounds_toArray, List.set_cons_zero, List.set_cons_succ]
          refine wpAnyH_takeL (i := 15) (v := undef) rfl (by kernel_rfl) (by kernel_rfl) (by kernel_rfl) (fun _ _ _ h => h) (Or.inr ⟨by rfl, rfl⟩) (by assumption) ?g3qr15
          case' g3qr15 => try simp only [Act.put, List.setIfInBounds_toArray, List.set_cons_zero, List.set_cons_succ]
          refine wpAnyH_takeL (i := 16) (v := ?g3qv16) rfl (by kernel_rfl) (by kernel_rfl) (by kernel_rfl) (fun _ _ _ h => h) (Or.inl ⟨by rfl, ?g3qy16⟩) (by assumption) ?g3qr16
          case g3qy16 => first | (intro w hSw; (try dsimp only at hSw); go_simp; done) | (intro w hSw; (try dsimp only at hSw); go_simp; with_reducible rfl)
          case' g3qr16 => try simp only [Act.put, List.setIfInBounds_toArray, List.set_cons_zero, List.set_cons_succ]
          refine wpAnyH_done (by kernel_rfl) ?_ _
          go_wp2
          first
            | go_roundw
            | refine ⟨?rel, ?measure⟩
          case rel =>
            refine ⟨k + 1, ik + 1, by omega, by have := HBB.out; omega, by first | rfl | go_num, hid ⟨by have := HIK.out; omega, .inl (by omega)⟩, hid ?_, HXD⟩
            rw [HNX.out, HIN.out, HRR.out]
            exact HEND.out
          case measure => simp [intOf]; omega
        · obtain ⟨y, hy⟩ : ∃ y, O[p']? = some y := ⟨_, List.getElem?_eq_getElem (by have := HOL.out; omega)⟩
          obtain ⟨m1, m2, m3⟩ := move_down (P := P) (R := R) (x := x) hy
          obtain ⟨pi, hpi⟩ : ∃ pi, P.length + p' = pi := ⟨_, rfl⟩
          have hpj2 : pi + 1 = pj := by have := HPJ.out; have := HA.out; omega
          rw [hpi] at m1 m2 m3
          rw [hpj2] at m2 m3
          have HMV := hid m3
          have HYO := hid hy
          have HPI : Hid (a + p' = pi) := hid (by have := HA.out; omega)
          obtain ⟨E, hE⟩ : ∃ E, P ++ (insP O x (p' + 1) ++ R) = E := ⟨_, rfl⟩
          rw [hE] at m1 m2 HE HMV
          have HEE := hid hE
          have ex := m1
          have ey := m2
          obtain ⟨⟨x0, x1, x2⟩, f0, f1, f2⟩ := sym_cells HE.out ex
          obtain ⟨⟨y0, y1, y2⟩, g0, g1, g2⟩ := sym_cells HE.out ey
          have w9 : IntKind.i64.wrap ((pj : Int) - 1) = (pi : Int) := by rw [IntWalk.i64_in _ (by omega)]; omega
          have d1 : decide ((pj : Int) > (a : Int)) = true := decide_eq_true (by have := HPJ.out; omega)
          have d2 : decide ((a : Int) < (pj : Int)) = true := decide_eq_true (by have := HPJ.out; omega)
          have d3 : decide (a < pj) = true := decide_eq_true (by have := HPJ.out; omega)
          have i1 : (0 : Int) ≤ (pi : Int) := by omega
          have i3 : (0 : Int) ≤ (pj : Int) := by omega
          have hpjn : pj < n := by omega
          have i4 : (pj : Int) < (n : Int) := by omega
          have i2 : (pi : Int) < (n : Int) := by omega
          have hpq : pj ≠ pi := by omega
          have hpp : pi < pj := by omega
          obtain ⟨r, hr⟩ : ∃ r, ltS x y = r := ⟨_, rfl⟩
          have HR' := hid hr
          have HXY := hid (And.intro ex ey)
          clear hy hpi hpj2 hE m1 m2 m3 hr ex ey
          go_upto_region 4 with fail
          refine wp_region_held_drew (S := (fun w' => w'.cell? ⟨g, pi * 3, none⟩ = some (.string y.name) ∧ w'.cell? ⟨g, pi * 3 + 1, none⟩ = some (.int .u32 y.addr) ∧ w'.cell? ⟨g, pi * 3 + 2, none⟩ = some (.int .i64 y.kind) ∧ w'.cell? ⟨g, pj * 3, none⟩ = some (.string x.name) ∧ w'.cell? ⟨g, pj * 3 + 1, none⟩ = some (.int .u32 x.addr) ∧ w'.cell? ⟨g, pj * 3 + 2, none⟩ = some (.int .i64 x.kind))) (by kernel_rfl) ⟨x0, x1, x2, y0, y1, y2⟩ (fun hSg4q0 => ?_)
          refine wpAnyH_takeL (i := 0) (v := ?g4qv0) rfl (by kernel_rfl) (by kernel_rfl) (by kernel_rfl) (fun _ _ _ h => h) (Or.inl ⟨by rfl, ?g4qy0⟩) (by assumption) ?g4qr0
          case g4qy0 => first | (intro w hSw; (try dsimp only at hSw); go_simp; done) | (intro w hSw; (try dsimp only at hSw); go_simp; with_reducible rfl)
          case' g4qr0 => try simp only [Act.put, List.setIfInBounds_toArray, List.set_cons_zero, List.set_cons_succ]
          refine wpAnyH_takeL (i := 1) (v := ?g4qv1) rfl (by kernel_rfl) (by kernel_rfl) (by kernel_rfl) (fun _ _ _ h => h) (Or.inl ⟨by rfl, ?g4qy1⟩) (by assumption) ?g4qr1
          case g4qy1 => first | (intro w hSw; (try dsimp only at hSw); go_simp; done) | (intro w hSw; (try dsimp only at hSw); go_simp; with_reducible rfl)
          case' g4qr1 => try simp only [Act.put, List.setIfInBounds_toArray, List.set_cons_zero, List.set_cons_succ]
          refine wpAnyH_takeL (i := 2) (v := ?g4qv2) rfl (by kernel_rfl) (by kernel_rfl) (by kernel_rfl) (fun _ _ _ h => h) (Or.inl ⟨by rfl, ?g4qy2⟩) (by assumption) ?g4qr2
          case g4qy2 => first | (intro w hSw; (try dsimp only at hSw); go_simp; done) | (intro w hSw; (try dsimp only at hSw); go_simp; with_reducible rfl)
          case' g4qr2 => try simp only [Act.put, List.setIfInBounds_toArray, List.set_cons_zero, List.set_cons_succ]
          refine wpAnyH_takeL (i := 3) (v := ?g4qv3) rfl (by kernel_rfl) (by kernel_rfl) (by kernel_rfl) (fun _ _ _ h => h) (Or.inl ⟨by rfl, ?g4qy3⟩) (by assumption) ?g4qr3
          case g4qy3 => first | (intro w hSw; (try dsimp only at hSw); go_simp; done) | (intro w hSw; (try dsimp only at hSw); go_simp; with_reducible rfl)
          case' g4qr3 => try simp only [Act.put, List.setIfInBounds_toArray, List.set_cons_zero, List.set_cons_succ]
          refine wpAnyH_takeL (i := 4) (v := ?g4qv4) rfl (by kernel_rfl) (by kernel_rfl) (by kernel_rfl) (fun _ _ _ h => h) (Or.inl ⟨by rfl, ?g4qy4⟩) (by assumption) ?g4qr4
          case g4qy4 => first | (intro w hSw; (try dsimp only at hSw); go_simp; done) | (intro w hSw; (try dsimp only at hSw); go_simp; with_reducible rfl)
          case' g4qr4 => try simp only [Act.put, List.setIfInBounds_toArray, List.set_cons_zero, List.set_cons_succ]
          refine wpAnyH_takeL (i := 5) (v := ?g4qv5) rfl (by kernel_rfl) (by kernel_rfl) (by kernel_rfl) (fun _ _ _ h => h) (Or.inl ⟨by rfl, ?g4qy5⟩) (by assumption) ?g4qr5
          case g4qy5 => first | (intro w hSw; (try dsimp only at hSw); go_simp; done) | (intro w hSw; (try dsimp only at hSw); go_simp; with_reducible rfl)
          case' g4qr5 => try simp only [Act.put, List.setIfInBounds_toArray, List.set_cons_zero, List.set_cons_succ]
          refine wpAnyH_takeL (i := 6) (v := ?g4qv6) rfl (by kernel_rfl) (by kernel_rfl) (by kernel_rfl) (fun _ _ _ h => h) (Or.inl ⟨by rfl, ?g4qy6⟩) (by assumption) ?g4qr6
          case g4qy6 => first | (intro w hSw; (try dsimp only at hSw); go_simp; done) | (intro w hSw; (try dsimp only at hSw); go_simp; with_reducible rfl)
          case' g4qr6 => try simp only [Act.put, List.setIfInBounds_toArray, List.set_cons_zero, List.set_cons_succ]
          refine wpAnyH_takeL (i := 7) (v := ?g4qv7) rfl (by kernel_rfl) (by kernel_rfl) (by kernel_rfl) (fun _ _ _ h => h) (Or.inl ⟨by rfl, ?g4qy7⟩) (by assumption) ?g4qr7
          case g4qy7 => first | (intro w hSw; (try dsimp only at hSw); go_simp; done) | (intro w hSw; (try dsimp only at hSw); go_simp; with_reducible rfl)
          case' g4qr7 => try simp only [Act.put, List.setIfInBounds_toArray, List.set_cons_zero, List.set_cons_succ]
          refine wpAnyH_takeL (i := 8) (v := ?g4qv8) rfl (by kernel_rfl) (by kernel_rfl) (by kernel_rfl) (fun _ _ _ h => h) (Or.inl ⟨by rfl, ?g4qy8⟩) (by assumption) ?g4qr8
          case g4qy8 => first | (intro w hSw; (try dsimp only at hSw); go_simp; done) | (intro w hSw; (try dsimp only at hSw); go_simp; with_reducible rfl)
          case' g4qr8 => try simp only [Act.put, List.setIfInBounds_toArray, List.set_cons_zero, List.set_cons_succ]
          refine wpAnyH_takeL (i := 9) (v := ?g4qv9) rfl (by kernel_rfl) (by kernel_rfl) (by kernel_rfl) (fun _ _ _ h => h) (Or.inl ⟨by rfl, ?g4qy9⟩) (by assumption) ?g4qr9
          case g4qy9 => first | (intro w hSw; (try dsimp only at hSw); go_simp; done) | (intro w hSw; (try dsimp only at hSw); go_simp; with_reducible rfl)
          case' g4qr9 => try simp only [Act.put, List.setIfInBounds_toArray, List.set_cons_zero, List.set_cons_succ]
          refine wpAnyH_takeL (i := 10) (v := ?g4qv10) rfl (by kernel_rfl) (by kernel_rfl) (by kernel_rfl) (fun _ _ _ h => h) (Or.inl ⟨by rfl, ?g4qy10⟩) (by assumption) ?g4qr10
          case g4qy10 => first | (intro w hSw; (try dsimp only at hSw); go_simp; done) | (intro w hSw; (try dsimp only at hSw); go_simp; with_reducible rfl)
          case' g4qr10 => try simp only [Act.put, List.setIfInBounds_toArray, List.set_cons_zero, List.set_cons_succ]
          refine wpAnyH_takeL (i := 11) (v := ?g4qv11) rfl (by kernel_rfl) (by kernel_rfl) (by kernel_rfl) (fun _ _ _ h => h) (Or.inl ⟨by rfl, ?g4qy11⟩) (by assumption) ?g4qr11
          case g4qy11 => first | (intro w hSw; (try dsimp only at hSw); go_simp; done) | (intro w hSw; (try dsimp only at hSw); go_simp; with_reducible rfl)
          case' g4qr11 => try simp only [Act.put, List.setIfInBounds_toArray, List.set_cons_zero, List.set_cons_succ]
          refine wpAnyH_takeL (i := 12) (v := ?g4qv12) rfl (by kernel_rfl) (by kernel_rfl) (by kernel_rfl) (fun _ _ _ h => h) (Or.inl ⟨by rfl, ?g4qy12⟩) (by assumption) ?g4qr12
          case g4qy12 => first | (intro w hSw; (try dsimp only at hSw); go_simp; done) | (intro w hSw; (try dsimp only at hSw); go_simp; with_reducible rfl)
          case' g4qr12 => try simp only [Act.put, List.setIfInBounds_toArray, List.set_cons_zero, List.set_cons_succ]
          refine wpAnyH_takeL (i := 13) (v := ?g4qv13) rfl (by kernel_rfl) (by kernel_rfl) (by kernel_rfl) (fun _ _ _ h => h) (Or.inl ⟨by rfl, ?g4qy13⟩) (by assumption) ?g4qr13
          case g4qy13 => first | (intro w hSw; (try dsimp only at hSw); go_simp; done) | (intro w hSw; (try dsimp only at hSw); go_simp; with_reducible rfl)
          case' g4qr13 => try simp only [Act.put, List.setIfInBounds_toArray, List.set_cons_zero, List.set_cons_succ]
          refine wpAnyH_ready (rs := [14]) (by kernel_rfl) (by simp) ?_
          refine AllReadyH.consL rfl (fun K hK => ?_) AllReadyH.nil
          go_simp
          go_at_call 37
          refine (cmp_sy _ x y).mono ?_
          rintro e w6 ⟨⟨z, rfl, hz⟩, hx6⟩
          have HX6 := hid hx6.drew_left
          rw [HR'.out] at hz
          clear hx6
          refine hK.out _ _ ⟨HX6.out.cell x0, HX6.out.cell x1, HX6.out.cell x2, HX6.out.cell y0, HX6.out.cell y1, HX6.out.cell y2⟩ (fun hSg4q1 => ?_)
          clear hK K
          try simp only [Act.put, List.setIfInBounds_toArray, List.set_cons_zero, List.set_cons_succ]
          refine wpAnyH_takeL (i := 15) (v := ?g4qv15) rfl (by kernel_rfl) (by kernel_rfl) (by kernel_rfl) (fun _ _ _ h => h) (Or.inl ⟨by rfl, ?g4qy15⟩) (by assumption) ?g4qr15
          case g4qy15 => first | (intro w hSw; (try dsimp only at hSw); go_simp; done) | (intro w hSw; (try dsimp only at hSw); go_simp; with_reducible rfl)
          case' g4qr15 => try simp only [Act.put, List.setIfInBounds_toArray, List.set_cons_zero, List.set_cons_succ]
          refine wpAnyH_takeL (i := 16) (v := ?g4qv16) rfl (by kernel_rfl) (by kernel_rfl) (by kernel_rfl) (fun _ _ _ h => h) (Or.inl ⟨by rfl, ?g4qy16⟩) (by assumption) ?g4qr16
          case g4qy16 => first | (intro w hSw; (try dsimp only at hSw); go_simp; done) | (intro w hSw; (try dsimp only at hSw); go_simp; with_reducible rfl)
          case' g4qr16 => try simp only [Act.put, List.setIfInBounds_toArray, List.set_cons_zero, List.set_cons_succ]
          refine wpAnyH_done (by kernel_rfl) ?_ _
          cases r with
          | false =>
            have hz' : ¬ z < 0 := by simpa using hz
            have HIN : Hid (insR ltS x O = insP O x (p' + 1)) := hid (insR_insP weakS HOS.out (by have := HOL.out; omega) (fun y' _ h => by rw [Nat.add_sub_cancel] at h; rw [HYO.out] at h; cases h; exact HR'.out) (fun q hq y hy => HALL.out q hq y hy))
            have HEND : Hid (OwnS symR w6 wo.heap.size 27 All (.slice (some ⟨g, 0, none⟩) n c) (P ++ (insP O x (p' + 1) ++ R))) := hid (by rw [HEE.out]; exact HE.out.ext HX6.out)
            have HXD := hid (HXR.out.trans HX6.out)
            clear hz
            go_wp2
            first
              | go_roundw
              | refine ⟨?rel, ?measure⟩
            case rel =>
              refine ⟨k + 1, ik + 1, by omega, by have := HBB.out; omega, by first | rfl | go_num, hid ⟨by have := HIK.out; omega, .inl (by omega)⟩, hid ?_, HXD⟩
              rw [HNX.out, HIN.out, HRR.out]
              exact HEND.out
            case measure => simp [intOf]; omega
          | true =>
            have hz' : z < 0 := by simpa using hz
            have HLT := HR'
            have HE := hid (HE.out.ext HX6.out)
            have HXR := hid (HXR.out.trans HX6.out)
            have ex := HXY.out.1
            have ey := HXY.out.2
            obtain ⟨⟨x0, x1, x2⟩, f0, f1, f2⟩ := sym_cells HE.out ex
            obtain ⟨⟨y0, y1, y2⟩, g0, g1, g2⟩ := sym_cells HE.out ey
            clear hz
            have hokx := symP.own_ok HE.out y (List.mem_of_getElem? ex)
            have hoky := symP.own_ok HE.out x (List.mem_of_getElem? ey)
            obtain ⟨W1, hW1⟩ : ∃ W1, ((w6.setCell ⟨g, pj * 3, none⟩ (.string y.name)).setCell ⟨g, pj * 3 + 1, none⟩ (.int .u32 y.addr)).setCell ⟨g, pj * 3 + 2, none⟩ (.int .i64 y.kind) = W1 := ⟨_, rfl⟩
            have ho1 := sym_put HE.out ey hokx
            rw [hW1] at ho1
            have ex1 : (E.set pj y)[pi]? = some y := by rw [List.getElem?_set_ne hpq]; exact ex
            obtain ⟨⟨u0, u1, u2⟩, v0, v1, v2⟩ := sym_cells ho1 ex1
            obtain ⟨W2, hW2⟩ : ∃ W2, ((W1.setCell ⟨g, pi * 3, none⟩ (.string x.name)).setCell ⟨g, pi * 3 + 1, none⟩ (.int .u32 x.addr)).setCell ⟨g, pi * 3 + 2, none⟩ (.int .i64 x.kind) = W2 := ⟨_, rfl⟩
            have ho2 := sym_put ho1 ex1 hoky
            rw [hW2] at ho2
            have hx1 : Ext wo W1 := by rw [← hW1]; exact ((HXR.out.setCell (p := ⟨g, pj * 3, none⟩) hgw _).setCell (p := ⟨g, pj * 3 + 1, none⟩) hgw _).setCell (p := ⟨g, pj * 3 + 2, none⟩) hgw _
            have hx2 : Ext wo W2 := by rw [← hW2]; exact ((hx1.setCell (p := ⟨g, pi * 3, none⟩) hgw _).setCell (p := ⟨g, pi * 3 + 1, none⟩) hgw _).setCell (p := ⟨g, pi * 3 + 2, none⟩) hgw _
            have HO2 := hid ho2
            have HX2 := hid hx2
            clear hokx hoky ho1 ex1 ho2 hx1 hx2
            go_upto_region 6 with fail
            have HXg5q_0 := hid ((Ext.refl w6).drew)
            refine wp_region_held_drew (S := (fun w' => True)) (by kernel_rfl) trivial (fun hSg5q0 => ?_)
            refine wpAnyH_takeL (i := 0) (v := ?g5qv0x1) rfl (by kernel_rfl) (by kernel_rfl) (by kernel_rfl) (fun _ _ _ h => h) (Or.inl ⟨by rfl, ?g5qy0x1⟩) (by assumption) ?g5qr0x1
            case g5qy0x1 => first | (intro w hSw; (try dsimp only at hSw); go_simp; done) | (intro w hSw; (try dsimp only at hSw); go_simp; with_reducible rfl)
            case' g5qr0x1 => try simp only [Act.put, List.setIfInBounds_toArray, List.set_cons_zero, List.set_cons_succ]
            refine wpAnyH_takeL (i := 1) (v := ?g5qv1x2) rfl (by kernel_rfl) (by kernel_rfl) (by kernel_rfl) (fun _ _ _ h => h) (Or.inl ⟨by rfl, ?g5qy1x2⟩) (by assumption) ?g5qr1x2
            case g5qy1x2 => first | (intro w hSw; (try dsimp only at hSw); go_simp; done) | (intro w hSw; (try dsimp only at hSw); go_simp; with_reducible rfl)
            case' g5qr1x2 => try simp only [Act.put, List.setIfInBounds_toArray, List.set_cons_zero, List.set_cons_succ]
            refine wpAnyH_takeL (i := 2) (v := ?g5qv2x3) rfl (by kernel_rfl) (by kernel_rfl) (by kernel_rfl) (fun _ _ _ h => h) (Or.inl ⟨by rfl, ?g5qy2x3⟩) (by assumption) ?g5qr2x3
            case g5qy2x3 => first | (intro w hSw; (try dsimp only at hSw); go_simp; done) | (intro w hSw; (try dsimp only at hSw); go_simp; with_reducible rfl)
            case' g5qr2x3 => try simp only [Act.put, List.setIfInBounds_toArray, List.set_cons_zero, List.set_cons_succ]
            refine wpAnyH_takeL (i := 3) (v := ?g5qv3x4) rfl (by kernel_rfl) (by kernel_rfl) (by kernel_rfl) (fun _ _ _ h => h) (Or.inl ⟨by rfl, ?g5qy3x4⟩) (by assumption) ?g5qr3x4
            case g5qy3x4 => first | (intro w hSw; (try dsimp only at hSw); go_simp; done) | (intro w hSw; (try dsimp only at hSw); go_simp; with_reducible rfl)
            case' g5qr3x4 => try simp only [Act.put, List.setIfInBounds_toArray, List.set_cons_zero, List.set_cons_succ]
            refine wpAnyH_takeL (i := 4) (v := ?g5qv4x5) rfl (by kernel_rfl) (by kernel_rfl) (by kernel_rfl) (fun _ _ _ h => h) (Or.inl ⟨by rfl, ?g5qy4x5⟩) (by assumption) ?g5qr4x5
            case g5qy4x5 => first | (intro w hSw; (try dsimp only at hSw); go_simp; done) | (intro w hSw; (try dsimp only at hSw); go_simp; with_reducible rfl)
            case' g5qr4x5 => try simp only [Act.put, List.setIfInBounds_toArray, List.set_cons_zero, List.set_cons_succ]
            refine wpAnyH_takeL (i := 5) (v := ?g5qv5x6) rfl (by kernel_rfl) (by kernel_rfl) (by kernel_rfl) (fun _ _ _ h => h) (Or.inl ⟨by rfl, ?g5qy5x6⟩) (by assumption) ?g5qr5x6
            case g5qy5x6 => first | (intro w hSw; (try dsimp only at hSw); go_simp; done) | (intro w hSw; (try dsimp only at hSw); go_simp; with_reducible rfl)
            case' g5qr5x6 => try simp only [Act.put, List.setIfInBounds_toArray, List.set_cons_zero, List.set_cons_succ]
            refine wpAnyH_takeL (i := 6) (v := ?g5qv6x7) rfl (by kernel_rfl) (by kernel_rfl) (by kernel_rfl) (fun _ _ _ h => h) (Or.inl ⟨by rfl, ?g5qy6x7⟩) (by assumption) ?g5qr6x7
            case g5qy6x7 => first | (intro w hSw; (try dsimp only at hSw); go_simp; done) | (intro w hSw; (try dsimp only at hSw); go_simp; with_reducible rfl)
            case' g5qr6x7 => try simp only [Act.put, List.setIfInBounds_toArray, List.set_cons_zero, List.set_cons_succ]
            refine wpAnyH_takeL (i := 7) (v := ?g5qv7x8) rfl (by kernel_rfl) (by kernel_rfl) (by kernel_rfl) (fun _ _ _ h => h) (Or.inl ⟨by rfl, ?g5qy7x8⟩) (by assumption) ?g5qr7x8
            case g5qy7x8 => first | (intro w hSw; (try dsimp only at hSw); go_simp; done) | (intro w hSw; (try dsimp only at hSw); go_simp; with_reducible rfl)
            case' g5qr7x8 => try simp only [Act.put, List.setIfInBounds_toArray, List.set_cons_zero, List.set_cons_succ]
            refine wpAnyH_takeL (i := 8) (v := ?g5qv8x9) rfl (by kernel_rfl) (by kernel_rfl) (by kernel_rfl) (fun _ _ _ h => h) (Or.inl ⟨by rfl, ?g5qy8x9⟩) (by assumption) ?g5qr8x9
            case g5qy8x9 => first | (intro w hSw; (try dsimp only at hSw); go_simp; done) | (intro w hSw; (try dsimp only at hSw); go_simp; with_reducible rfl)
            case' g5qr8x9 => try simp only [Act.put, List.setIfInBounds_toArray, List.set_cons_zero, List.set_cons_succ]
            refine wpAnyH_takeL (i := 10) (v := ?g5qv10x10) rfl (by kernel_rfl) (by kernel_rfl) (by kernel_rfl) (fun _ _ _ h => h) (Or.inl ⟨by rfl, ?g5qy10x10⟩) (by assumption) ?g5qr10x10
            case g5qy10x10 => first | (intro w hSw; (try dsimp only at hSw); go_simp; done) | (intro w hSw; (try dsimp only at hSw); go_simp; with_reducible rfl)
            case' g5qr10x10 => try simp only [Act.put, List.setIfInBounds_toArray, List.set_cons_zero, List.set_cons_succ]
            refine wpAnyH_takeL (i := 11) (v := ?g5qv11x11) rfl (by kernel_rfl) (by kernel_rfl) (by kernel_rfl) (fun _ _ _ h => h) (Or.inl ⟨by rfl, ?g5qy11x11⟩) (by assumption) ?g5qr11x11
            case g5qy11x11 => first | (intro w hSw; (try dsimp only at hSw); go_simp; done) | (intro w hSw; (try dsimp only at hSw); go_simp; with_reducible rfl)
            case' g5qr11x11 => try simp only [Act.put, List.setIfInBounds_toArray, List.set_cons_zero, List.set_cons_succ]
            refine wpAnyH_takeL (i := 12) (v := ?g5qv12x12) rfl (by kernel_rfl) (by kernel_rfl) (by kernel_rfl) (fun _ _ _ h => h) (Or.inl ⟨by rfl, ?g5qy12x12⟩) (by assumption) ?g5qr12x12
            case g5qy12x12 => first | (intro w hSw; (try dsimp only at hSw); go_simp; done) | (intro w hSw; (try dsimp only at hSw); go_simp; with_reducible rfl)
            case' g5qr12x12 => try simp only [Act.put, List.setIfInBounds_toArray, List.set_cons_zero, List.set_cons_succ]
            refine wpAnyH_ready (rs := [9, 13]) (by kernel_rfl) (by simp) ?_
            refine (AllReadyH.consL rfl (fun K hK => ?g5qb9x13) (AllReadyH.consL rfl (fun K hK => ?g5qb13x13) AllReadyH.nil))
            case' g5qb9x13 =>
              have hEg5q1 := Ext.refl w6.drew
              go_simp
              have HXg5q_1 := hid (HXg5q_0.out.trans hEg5q1)
              clear hEg5q1
              refine hK.out _ _ (keepT HXg5q_1.out) (fun hSg5q1 => ?_)
              clear hK K
              try simp only [Act.put, List.setIfInBounds_toArray, List.set_cons_zero, List.set_cons_succ]
              refine wpAnyH_ready (rs := [13]) (by kernel_rfl) (by simp) ?_
              refine (AllReadyH.consL rfl (fun K hK => ?g5qb13x14) AllReadyH.nil)
              case' g5qb13x14 =>
                have hEg5q2 := Ext.refl w6.drew
                go_simp
                have HXg5q_2 := hid (HXg5q_1.out.trans hEg5q2)
                clear hEg5q2
                refine hK.out _ _ (keepT HXg5q_2.out) (fun hSg5q2 => ?_)
                clear hK K
                try simp only [Act.put, List.setIfInBounds_toArray, List.set_cons_zero, List.set_cons_succ]
                refine wpAnyH_takeL (i := 14) (v := ?g5qv14x15) rfl (by kernel_rfl) (by kernel_rfl) (by kernel_rfl) (fun _ _ _ h => h) (Or.inl ⟨by rfl, ?g5qy14x15⟩) (by assumption) ?g5qr14x15
                case g5qy14x15 => first | (intro w hSw; (try dsimp only at hSw); go_simp; done) | (intro w hSw; (try dsimp only at hSw); go_simp; with_reducible rfl)
                case' g5qr14x15 => try simp only [Act.put, List.setIfInBounds_toArray, List.set_cons_zero, List.set_cons_succ]
                refine wpAnyH_ready (rs := [15]) (by kernel_rfl) (by simp) ?_
                refine (AllReadyH.consL rfl (fun K hK => ?g5qb15x16) AllReadyH.nil)
                case' g5qb15x16 =>
                  go_simp
                  refine hK.out _ _ trivial (fun hSg5q3 => ?_)
                  clear hK K
                  try simp only [Act.put, List.setIfInBounds_toArray, List.set_cons_zero, List.set_cons_succ]
                  refine wpAnyH_takeL (i := 16) (v := ?g5qv16x17) rfl (by kernel_rfl) (by kernel_rfl) (by kernel_rfl) (fun _ _ _ h => h) (Or.inl ⟨by rfl, ?g5qy16x17⟩) (by assumption) ?g5qr16x17
                  case g5qy16x17 => first | (intro w hSw; (try dsimp only at hSw); go_simp; done) | (intro w hSw; (try dsimp only at hSw); go_simp; with_reducible rfl)
                  case' g5qr16x17 => try simp only [Act.put, List.setIfInBounds_toArray, List.set_cons_zero, List.set_cons_succ]
                  refine wpAnyH_ready (rs := [17]) (by kernel_rfl) (by simp) ?_
                  refine (AllReadyH.consL rfl (fun K hK => ?g5qb17x18) AllReadyH.nil)
                  case' g5qb17x18 =>
                    go_simp
                    refine hK.out _ _ trivial (fun hSg5q4 => ?_)
                    clear hK K
                    try simp only [Act.put, List.setIfInBounds_toArray, List.set_cons_zero, List.set_cons_succ]
                    refine wpAnyH_done (by kernel_rfl) ?_ _
                    go_wp2
                    first
                      | go_roundw
                      | refine ⟨?rel, ?measure⟩
                    case rel =>
                      refine ⟨p', pi, by omega, by omega, by first | rfl | go_num, hid HPI.out, hid ?_, hid ?_, hid HX2.out.drew⟩
                      · intro q' hq' y' hy'
                        by_cases e : q' = p'
                        · subst e
                          have h := HYO.out.symm.trans hy'
                          cases h
                          exact HLT.out
                        · exact HALL.out q' (by omega) y' hy'
                      · have h := HO2.out.dr
                        rw [HMV.out] at h
                        exact h
                    case measure => simp [intOf]; omega
            case' g5qb13x13 =>
              have hEg5q1 := Ext.refl w6.drew
              go_simp
              have HXg5q_1 := hid (HXg5q_0.out.trans hEg5q1)
              clear hEg5q1
              refine hK.out _ _ (keepT HXg5q_1.out) (fun hSg5q1 => ?_)
              clear hK K
              try simp only [Act.put, List.setIfInBounds_toArray, List.set_cons_zero, List.set_cons_succ]
              refine wpAnyH_ready (rs := [9]) (by kernel_rfl) (by simp) ?_
              refine (AllReadyH.consL rfl (fun K hK => ?g5qb9x19) AllReadyH.nil)
              case' g5qb9x19 =>
                have hEg5q2 := Ext.refl w6.drew
                go_simp
                have HXg5q_2 := hid (HXg5q_1.out.trans hEg5q2)
                clear hEg5q2
                refine hK.out _ _ (keepT HXg5q_2.out) (fun hSg5q2 => ?_)
                clear hK K
                try simp only [Act.put, List.setIfInBounds_toArray, List.set_cons_zero, List.set_cons_succ]
                refine wpAnyH_takeL (i := 14) (v := ?g5qv14x20) rfl (by kernel_rfl) (by kernel_rfl) (by kernel_rfl) (fun _ _ _ h => h) (Or.inl ⟨by rfl, ?g5qy14x20⟩) (by assumption) ?g5qr14x20
                case g5qy14x20 => first | (intro w hSw; (try dsimp only at hSw); go_simp; done) | (intro w hSw; (try dsimp only at hSw); go_simp; with_reducible rfl)
                case' g5qr14x20 => try simp only [Act.put, List.setIfInBounds_toArray, List.set_cons_zero, List.set_cons_succ]
                refine wpAnyH_ready (rs := [15]) (by kernel_rfl) (by simp) ?_
                refine (AllReadyH.consL rfl (fun K hK => ?g5qb15x21) AllReadyH.nil)
                case' g5qb15x21 =>
                  go_simp
                  refine hK.out _ _ trivial (fun hSg5q3 => ?_)
                  clear hK K
                  try simp only [Act.put, List.setIfInBounds_toArray, List.set_cons_zero, List.set_cons_succ]
                  refine wpAnyH_takeL (i := 16) (v := ?g5qv16x22) rfl (by kernel_rfl) (by kernel_rfl) (by kernel_rfl) (fun _ _ _ h => h) (Or.inl ⟨by rfl, ?g5qy16x22⟩) (by assumption) ?g5qr16x22
                  case g5qy16x22 => first | (intro w hSw; (try dsimp only at hSw); go_simp; done) | (intro w hSw; (try dsimp only at hSw); go_simp; with_reducible rfl)
                  case' g5qr16x22 => try simp only [Act.put, List.setIfInBounds_toArray, List.set_cons_zero, List.set_cons_succ]
                  refine wpAnyH_ready (rs := [17]) (by kernel_rfl) (by simp) ?_
                  refine (AllReadyH.consL rfl (fun K hK => ?g5qb17x23) AllReadyH.nil)
                  case' g5qb17x23 =>
                    go_simp
                    refine hK.out _ _ trivial (fun hSg5q4 => ?_)
                    clear hK K
                    try simp only [Act.put, List.setIfInBounds_toArray, List.set_cons_zero, List.set_cons_succ]
                    refine wpAnyH_done (by kernel_rfl) ?_ _
                    go_wp2
                    first
                      | go_roundw
                      | refine ⟨?rel, ?measure⟩
                    case rel =>
                      refine ⟨p', pi, by omega, by omega, by first | rfl | go_num, hid HPI.out, hid ?_, hid ?_, hid HX2.out.drew⟩
                      · intro q' hq' y' hy'
                        by_cases e : q' = p'
                        · subst e
                          have h := HYO.out.symm.trans hy'
                          cases h
                          exact HLT.out
                        · exact HALL.out q' (by omega) y' hy'
                      · have h := HO2.out.dr
                        rw [HMV.out] at h
                        exact h
                    case measure => simp [intOf]; omega
    · have hkN : X.take k = X := by
        rcases HK.out.2 with h | h
        · exact List.take_of_length_le (by have := HK.out.1; have := HBB.out; have := HN.out; omega)
        · exact List.take_of_length_le (by have := HK.out.1; have := HBB.out; have := HN.out; omega)
      have hdr : X.drop k = [] := List.drop_eq_nil_of_le (by have := HK.out.1; have := HBB.out; have := HN.out; omega)
      have h := HE0.out
      rw [hkN, hdr, List.nil_append] at h
      have HF := hid h
      clear h hkN hdr
      go_wp2
      (try simp only [Exit.inBlock, Exit.then])
      refine bodyPost_ret (results_none rfl _ _ _) rfl ?_
      exact ⟨rfl, HX0.out, HF.out⟩
end Go.Proofs.YtekilcnkinmakaaDoor
