/- The library's stable sort at symbols: symMerge. -/
import Derived.Test.YtekilcnkinmakaaDoorStbC
namespace Go.Proofs.YtekilcnkinmakaaDoor
open Go.RowKit Go.Deco
set_option linter.unusedSimpArgs false
set_option linter.unusedVariables false

/-- What symMerge does to two neighbouring sorted parts. -/
def SymgOk (wo : World) (g n c N : Nat) : Prop := ∀ (w : World) (P X Y Q : List Sy) (a m b : Nat), Ext wo w → OwnS symR w wo.heap.size 27 All (.slice (some ⟨g, 0, none⟩) n c) (P ++ (X ++ (Y ++ Q))) → X ≠ [] → Y ≠ [] → Srt ltS X → Srt ltS Y → X.length + Y.length < N →
  a = P.length → m = P.length + X.length → b = P.length + X.length + Y.length → Calls Tryd.prog 63 #[.slice (some ⟨g, 0, none⟩) n c, .int .i64 a, .int .i64 m, .int .i64 b, .func (.func 37) #[] #[]] w (RowS wo g n c (P ++ (mrg ltS X Y ++ Q)))
theorem mrg_nil2 {X Y : List Sy} (h : X = [] ∨ Y = []) : mrg ltS X Y = X ++ Y := by
  rcases h with rfl | rfl
  · rw [mrg_nil]; rfl
  · rw [mrg_nil', List.append_nil]

set_option maxRecDepth 100000 in
set_option maxHeartbeats 8000000 in
theorem symg_big (wo w : World) (g n c : Nat) (P X Y Q : List Sy) (hx : Ext wo w) (ho : OwnS symR w wo.heap.size 27 All (.slice (some ⟨g, 0, none⟩) n c) (P ++ (X ++ (Y ++ Q)))) (hX : Srt ltS X) (hY : Srt ltS Y) (hX2 : 2 ≤ X.length) (hY2 : 2 ≤ Y.length) (hn : n ≤ 1000000) (ih : SymgOk wo g n c (X.length + Y.length)) (a m b : Nat) (ha : a = P.length) (hm : m = P.length + X.length) (hb : b = P.length + X.length + Y.length) :
    Calls Tryd.prog 63 #[.slice (some ⟨g, 0, none⟩) n c, .int .i64 a, .int .i64 m, .int .i64 b, .func (.func 37) #[] #[]] w (RowS wo g n c (P ++ (mrg ltS X Y ++ Q))) := by
  have hg := call_syord
  have hln := ho.len
  simp only [List.length_append] at hln
  have hgw : wo.heap.size ≤ g := (ho.block g rfl).1
  obtain ⟨lx, hlx⟩ : ∃ lx, X.length = lx := ⟨_, rfl⟩
  obtain ⟨ly, hly⟩ : ∃ ly, Y.length = ly := ⟨_, rfl⟩
  obtain ⟨mid, hmid⟩ : ∃ mid, (a + b) / 2 = mid := ⟨_, rfl⟩
  obtain ⟨n', hn'⟩ : ∃ n', mid + m = n' := ⟨_, rfl⟩
  obtain ⟨pp, hpp⟩ : ∃ pp, n' - 1 = pp := ⟨_, rfl⟩
  rw [hlx] at hX2 hm hb hln
  rw [hly] at hY2 hb hln
  have HLX := hid hlx
  have HLY := hid hly
  have HPL := hid ha
  obtain ⟨st0, r0, hst⟩ : ∃ st0 r0 : Nat, (mid < m ∧ st0 + b = n' ∧ r0 = mid) ∨ (m ≤ mid ∧ st0 = a ∧ r0 = m) := by
    by_cases h : mid < m
    · exact ⟨n' - b, mid, .inl ⟨h, by omega, rfl⟩⟩
    · exact ⟨a, m, .inr ⟨by omega, rfl, rfl⟩⟩
  have HST := hid hst
  -- the places, as one fact of numbers
  have HN : Hid (m = a + lx ∧ b = m + ly ∧ 2 * mid ≤ a + b ∧ a + b ≤ 2 * mid + 1 ∧ n' = mid + m ∧ pp + 1 = n' ∧ b ≤ n) := hid (by omega)
  have hab : a ≤ 1000000 := by omega
  have hbb : b ≤ 1000000 := by omega
  have hmm : m ≤ 1000000 := by omega
  have hmi : mid ≤ 1000000 := by omega
  have w1 : IntKind.i64.wrap ((m : Int) - (a : Int)) = (lx : Int) := by rw [IntWalk.i64_in _ (by omega)]; omega
  have w2 : IntKind.i64.wrap ((b : Int) - (m : Int)) = (ly : Int) := by rw [IntWalk.i64_in _ (by omega)]; omega
  have n1 : ((lx : Int) == 1) = false := by simp; omega
  have n2 : ((ly : Int) == 1) = false := by simp; omega
  have e1 : ((a : Int) + (b : Int)) / 2 = (mid : Int) := by omega
  have w3 : IntKind.i64.wrap ((mid : Int) + (m : Int)) = (n' : Int) := by rw [IntWalk.i64_in _ (by omega)]; omega
  have w4 : IntKind.i64.wrap ((n' : Int) - 1) = (pp : Int) := by rw [IntWalk.i64_in _ (by omega)]; omega
  have w5 : mid < m → IntKind.i64.wrap ((n' : Int) - (b : Int)) = (st0 : Int) := fun h => by
    rcases HST.out with h2 | h2
    · rw [IntWalk.i64_in _ (by omega)]; omega
    · omega
  have HW5 := hid w5
  have HW4 := hid w4
  have HSX := hid hX
  have HSY := hid hY
  have HIH := hid ih
  have HX := hid hx
  have HO := hid ho
  have hppn : pp ≤ 2000000 := by omega
  have hn'n : n' ≤ 2000000 := by omega
  have hr0 : r0 ≤ n := by omega
  have hst0 : st0 ≤ r0 := by omega
  clear hx ho hln hX hY ih ha hm hb hlx hly hmid hn' hpp hst w5 w4 hX2 hY2
  go_enter Tryd.func63, Tryd.ntmps63
  go_upto_if 140 with fail
  clear w1 w2 n1 n2 e1 w3
  go_cut [20, 21] from 138 to 146 (fun s20 s21 wx => s20 = .int .i64 st0 ∧ s21 = .int .i64 r0 ∧ wx = w)
  case first =>
    by_cases h : mid < m
    · have w5 := HW5.out h
      have hr : r0 = mid := by have := HST.out; omega
      subst hr
      go_wp2
      go_meet
      exact ⟨rfl, rfl, rfl⟩
    · have hr : r0 = m ∧ st0 = a := by have := HST.out; omega
      obtain ⟨rfl, rfl⟩ := hr
      go_wp2
      go_meet
      exact ⟨rfl, rfl, rfl⟩
  case rest =>
    obtain ⟨rfl, rfl, rfl⟩ := hcut
    have w4 := HW4.out
    go_wp2
    clear w4
    go_loopw [20, 21] (fun s20 s21 wr => ∃ (i j : Nat), st0 ≤ i ∧ i ≤ j ∧ j ≤ r0 ∧ s20 = .int .i64 i ∧ s21 = .int .i64 j ∧ Hid (∀ x y, i ≠ st0 → X[i - 1 - a]? = some x → Y[pp - (i - 1) - m]? = some y → ltS y x = false) ∧ Hid (∀ x y, j ≠ r0 → X[j - a]? = some x → Y[pp - j - m]? = some y → ltS y x = true) ∧ Hid (OwnS symR wr wo.heap.size 27 All (.slice (some ⟨g, 0, none⟩) n c) (P ++ (X ++ (Y ++ Q)))) ∧ Hid (Ext wo wr)) (fun s20 s21 _ => (intOf s21).toNat - (intOf s20).toNat)
    case atStart => exact ⟨st0, r0, Nat.le_refl _, hst0, Nat.le_refl _, rfl, rfl, hid (fun x y h => absurd rfl h), hid (fun x y h => absurd rfl h), HO, HX⟩
    case round =>
      obtain ⟨i, j, hmi', hij, hjb, rfl, rfl, HLO, HHI, HE, HXR⟩ := hrel
      by_cases h1 : i < j
      · obtain ⟨h, hh⟩ : ∃ h, (i + j) / 2 = h := ⟨_, rfl⟩
        have e2 : ((i : Int) + (j : Int)) / 2 = (h : Int) := by omega
        have hh1 : i ≤ h := by omega
        have hh2 : h < j := by omega
        obtain ⟨u, hu⟩ : ∃ u, pp - h = u := ⟨_, rfl⟩
        have hhx : a ≤ h ∧ h < m ∧ m ≤ u ∧ u < b ∧ h ≤ pp := by have h2 := HST.out; have h3 := HN.out; omega
        obtain ⟨x, hx⟩ : ∃ x, X[h - a]? = some x := ⟨_, List.getElem?_eq_getElem (by have h2 := HLX.out; have h3 := HN.out; omega)⟩
        obtain ⟨y, hy⟩ : ∃ y, Y[u - m]? = some y := ⟨_, List.getElem?_eq_getElem (by have h2 := HLY.out; have h3 := HN.out; omega)⟩
        have hdx : (P ++ (X ++ (Y ++ Q)))[h]? = some x := by
          have e : h = P.length + (h - a) := by have := HPL.out; omega
          rw [e, part_at _ _ _ (List.getElem?_eq_some_iff.1 hx).1]
          exact hx
        have hdy : (P ++ (X ++ (Y ++ Q)))[u]? = some y := by
          have e : u = (P ++ X).length + (u - m) := by rw [List.length_append]; have := HPL.out; have := HLX.out; have := HN.out; omega
          rw [← List.append_assoc, e, part_at _ _ _ (List.getElem?_eq_some_iff.1 hy).1]
          exact hy
        obtain ⟨⟨x0, x1, x2⟩, -, -, -⟩ := sym_cells HE.out hdx
        obtain ⟨⟨y0, y1, y2⟩, -, -, -⟩ := sym_cells HE.out hdy
        have w66 : IntKind.i64.wrap ((pp : Int) - (h : Int)) = (u : Int) := by rw [IntWalk.i64_in _ (by omega)]; omega
        have i1 : (0 : Int) ≤ (u : Int) := by omega
        have i2 : (u : Int) < (n : Int) := by have := HN.out; omega
        have i3 : (0 : Int) ≤ (h : Int) := by omega
        have i4 : (h : Int) < (n : Int) := by omega
        have HXH := hid hx
        have HYU := hid hy
        obtain ⟨r, hr⟩ : ∃ r, ltS y x = r := ⟨_, rfl⟩
        have HR := hid hr
        have HU := hid hu
        clear hh hx hy hdx hdy hr hu hhx
        go_upto_region 35 with fail
        clear e2
        refine wp_region_held_drew (S := (fun w' => w'.cell? ⟨g, u * 3, none⟩ = some (.string y.name) ∧ w'.cell? ⟨g, u * 3 + 1, none⟩ = some (.int .u32 y.addr) ∧ w'.cell? ⟨g, u * 3 + 2, none⟩ = some (.int .i64 y.kind) ∧ w'.cell? ⟨g, h * 3, none⟩ = some (.string x.name) ∧ w'.cell? ⟨g, h * 3 + 1, none⟩ = some (.int .u32 x.addr) ∧ w'.cell? ⟨g, h * 3 + 2, none⟩ = some (.int .i64 x.kind))) (by kernel_rfl) ⟨y0, y1, y2, x0, x1, x2⟩ (fun hSg10q0 => ?_)
        refine wpAnyH_takeL (i := 0) (v := ?g10qv0) rfl (by kernel_rfl) (by kernel_rfl) (by kernel_rfl) (fun _ _ _ h => h) (Or.inl ⟨by rfl, ?g10qy0⟩) (by assumption) ?g10qr0
        case g10qy0 => first | (intro w hSw; (try dsimp only at hSw); go_simp; done) | (intro w hSw; (try dsimp only at hSw); go_simp; with_reducible rfl)
        case' g10qr0 => try simp only [Act.put, List.setIfInBounds_toArray, List.set_cons_zero, List.set_cons_succ]
        refine wpAnyH_takeL (i := 1) (v := ?g10qv1) rfl (by kernel_rfl) (by kernel_rfl) (by kernel_rfl) (fun _ _ _ h => h) (Or.inl ⟨by rfl, ?g10qy1⟩) (by assumption) ?g10qr1
        case g10qy1 => first | (intro w hSw; (try dsimp only at hSw); go_simp; done) | (intro w hSw; (try dsimp only at hSw); go_simp; with_reducible rfl)
        case' g10qr1 => try simp only [Act.put, List.setIfInBounds_toArray, List.set_cons_zero, List.set_cons_succ]
        refine wpAnyH_takeL (i := 2) (v := ?g10qv2) rfl (by kernel_rfl) (by kernel_rfl) (by kernel_rfl) (fun _ _ _ h => h) (Or.inl ⟨by rfl, ?g10qy2⟩) (by assumption) ?g10qr2
        case g10qy2 => first | (intro w hSw; (try dsimp only at hSw); go_simp; done) | (intro w hSw; (try dsimp only at hSw); go_simp; with_reducible rfl)
        case' g10qr2 => try simp only [Act.put, List.setIfInBounds_toArray, List.set_cons_zero, List.set_cons_succ]
        refine wpAnyH_takeL (i := 3) (v := ?g10qv3) rfl (by kernel_rfl) (by kernel_rfl) (by kernel_rfl) (fun _ _ _ h => h) (Or.inl ⟨by rfl, ?g10qy3⟩) (by assumption) ?g10qr3
        case g10qy3 => first | (intro w hSw; (try dsimp only at hSw); go_simp; done) | (intro w hSw; (try dsimp only at hSw); go_simp; with_reducible rfl)
        case' g10qr3 => try simp only [Act.put, List.setIfInBounds_toArray, List.set_cons_zero, List.set_cons_succ]
        refine wpAnyH_takeL (i := 4) (v := ?g10qv4) rfl (by kernel_rfl) (by kernel_rfl) (by kernel_rfl) (fun _ _ _ h => h) (Or.inl ⟨by rfl, ?g10qy4⟩) (by assumption) ?g10qr4
        case g10qy4 => first | (intro w hSw; (try dsimp only at hSw); go_simp; done) | (intro w hSw; (try dsimp only at hSw); go_simp; with_reducible rfl)
        case' g10qr4 => try simp only [Act.put, List.setIfInBounds_toArray, List.set_cons_zero, List.set_cons_succ]
        refine wpAnyH_takeL (i := 5) (v := ?g10qv5) rfl (by kernel_rfl) (by kernel_rfl) (by kernel_rfl) (fun _ _ _ h => h) (Or.inl ⟨by rfl, ?g10qy5⟩) (by assumption) ?g10qr5
        case g10qy5 => first | (intro w hSw; (try dsimp only at hSw); go_simp; done) | (intro w hSw; (try dsimp only at hSw); go_simp; with_reducible rfl)
        case' g10qr5 => try simp only [Act.put, List.setIfInBounds_toArray, List.set_cons_zero, List.set_cons_succ]
        refine wpAnyH_takeL (i := 6) (v := ?g10qv6) rfl (by kernel_rfl) (by kernel_rfl) (by kernel_rfl) (fun _ _ _ h => h) (Or.inl ⟨by rfl, ?g10qy6⟩) (by assumption) ?g10qr6
        case g10qy6 => first | (intro w hSw; (try dsimp only at hSw); go_simp; done) | (intro w hSw; (try dsimp only at hSw); go_simp; with_reducible rfl)
        case' g10qr6 => try simp only [Act.put, List.setIfInBounds_toArray, List.set_cons_zero, List.set_cons_succ]
        refine wpAnyH_takeL (i := 7) (v := ?g10qv7) rfl (by kernel_rfl) (by kernel_rfl) (by kernel_rfl) (fun _ _ _ h => h) (Or.inl ⟨by rfl, ?g10qy7⟩) (by assumption) ?g10qr7
        case g10qy7 => first | (intro w hSw; (try dsimp only at hSw); go_simp; done) | (intro w hSw; (try dsimp only at hSw); go_simp; with_reducible rfl)
        case' g10qr7 => try simp only [Act.put, List.setIfInBounds_toArray, List.set_cons_zero, List.set_cons_succ]
        refine wpAnyH_takeL (i := 8) (v := ?g10qv8) rfl (by kernel_rfl) (by kernel_rfl) (by kernel_rfl) (fun _ _ _ h => h) (Or.inl ⟨by rfl, ?g10qy8⟩) (by assumption) ?g10qr8
        case g10qy8 => first | (intro w hSw; (try dsimp only at hSw); go_simp; done) | (intro w hSw; (try dsimp only at hSw); go_simp; with_reducible rfl)
        case' g10qr8 => try simp only [Act.put, List.setIfInBounds_toArray, List.set_cons_zero, List.set_cons_succ]
        refine wpAnyH_takeL (i := 9) (v := ?g10qv9) rfl (by kernel_rfl) (by kernel_rfl) (by kernel_rfl) (fun _ _ _ h => h) (Or.inl ⟨by rfl, ?g10qy9⟩) (by assumption) ?g10qr9
        case g10qy9 => first | (intro w hSw; (try dsimp only at hSw); go_simp; done) | (intro w hSw; (try dsimp only at hSw); go_simp; with_reducible rfl)
        case' g10qr9 => try simp only [Act.put, List.setIfInBounds_toArray, List.set_cons_zero, List.set_cons_succ]
        refine wpAnyH_takeL (i := 10) (v := ?g10qv10) rfl (by kernel_rfl) (by kernel_rfl) (by kernel_rfl) (fun _ _ _ h => h) (Or.inl ⟨by rfl, ?g10qy10⟩) (by assumption) ?g10qr10
        case g10qy10 => first | (intro w hSw; (try dsimp only at hSw); go_simp; done) | (intro w hSw; (try dsimp only at hSw); go_simp; with_reducible rfl)
        case' g10qr10 => try simp only [Act.put, List.setIfInBounds_toArray, List.set_cons_zero, List.set_cons_succ]
        refine wpAnyH_ready (rs := [11]) (by kernel_rfl) (by simp) ?_
        refine AllReadyH.consL rfl (fun K hK => ?_) AllReadyH.nil
        go_simp
        go_at_call 37
        refine (cmp_sy _ y x).mono ?_
        rintro e w6 ⟨⟨z, rfl, hz⟩, hx6⟩
        have HX6 := hid hx6.drew_left
        rw [HR.out] at hz
        clear hx6
        refine hK.out _ _ ⟨HX6.out.cell y0, HX6.out.cell y1, HX6.out.cell y2, HX6.out.cell x0, HX6.out.cell x1, HX6.out.cell x2⟩ (fun hSg10q1 => ?_)
        clear hK K
        try simp only [Act.put, List.setIfInBounds_toArray, List.set_cons_zero, List.set_cons_succ]
        refine wpAnyH_takeL (i := 12) (v := ?g10qv12) rfl (by kernel_rfl) (by kernel_rfl) (by kernel_rfl) (fun _ _ _ h => h) (Or.inl ⟨by rfl, ?g10qy12⟩) (by assumption) ?g10qr12
        case g10qy12 => first | (intro w hSw; (try dsimp only at hSw); go_simp; done) | (intro w hSw; (try dsimp only at hSw); go_simp; with_reducible rfl)
        case' g10qr12 => try simp only [Act.put, List.setIfInBounds_toArray, List.set_cons_zero, List.set_cons_succ]
        refine wpAnyH_takeL (i := 13) (v := ?g10qv13) rfl (by kernel_rfl) (by kernel_rfl) (by kernel_rfl) (fun _ _ _ h => h) (Or.inl ⟨by rfl, ?g10qy13⟩) (by assumption) ?g10qr13
        case g10qy13 => first | (intro w hSw; (try dsimp only at hSw); go_simp; done) | (intro w hSw; (try dsimp only at hSw); go_simp; with_reducible rfl)
        case' g10qr13 => try simp only [Act.put, List.setIfInBounds_toArray, List.set_cons_zero, List.set_cons_succ]
        refine wpAnyH_done (by kernel_rfl) ?_ _
        have HE6 := hid (HE.out.ext HX6.out)
        have HXR6 := hid (HXR.out.trans HX6.out)
        clear w66
        cases r with
        | false =>
          have hz' : ¬ z < 0 := by simpa using hz
          clear hz
          go_wp2
          first
            | go_roundw
            | refine ⟨?rel, ?measure⟩
          case rel =>
            refine ⟨h + 1, j, by omega, by omega, by omega, by first | rfl | go_num, rfl, hid (fun x' y' _ hx' hy' => ?_), HHI, HE6, HXR6⟩
            rw [Nat.add_sub_cancel, HXH.out] at hx'
            rw [Nat.add_sub_cancel, HU.out, HYU.out] at hy'
            cases hx'
            cases hy'
            exact HR.out
          case measure => simp [intOf]; omega
        | true =>
          have hz' : z < 0 := by simpa using hz
          clear hz
          go_wp2
          first
            | go_roundw
            | refine ⟨?rel, ?measure⟩
          case rel =>
            refine ⟨i, h, by omega, by omega, by omega, rfl, by first | rfl | go_num, HLO, hid (fun x' y' _ hx' hy' => ?_), HE6, HXR6⟩
            rw [HXH.out] at hx'
            rw [HU.out, HYU.out] at hy'
            cases hx'
            cases hy'
            exact HR.out
          case measure => simp [intOf]; omega
      · obtain rfl : i = j := by omega
        obtain ⟨ex, hex⟩ : ∃ ex, i - a = ex := ⟨_, rfl⟩
        obtain ⟨ey, hey⟩ : ∃ ey, n' - i - m = ey := ⟨_, rfl⟩
        obtain ⟨e, he⟩ : ∃ e, n' - i = e := ⟨_, rfl⟩
        have hp : a ≤ i ∧ i ≤ m ∧ m ≤ e ∧ e ≤ b ∧ ex ≤ lx ∧ ey ≤ ly ∧ a + ex = i ∧ m + ey = e ∧ ex + ey + a = mid ∧ e + i = n' := by have h2 := HST.out; have h3 := HN.out; omega
        have hsp : mrg ltS X Y = mrg ltS (X.take ex) (Y.take ey) ++ mrg ltS (X.drop ex) (Y.drop ey) := by
          refine split_ok weakS HSX.out HSY.out ex ey (by have := HLX.out; omega) (by have := HLY.out; omega) (fun x y h0 hx hy => ?_) (fun x y h0 hx hy => ?_)
          · have hxl := (List.getElem?_eq_some_iff.1 hx).1
            refine HHI.out x y (fun h => ?_) (by rw [hex]; exact hx) (by rw [show pp - i - m = ey - 1 by have := HN.out; omega]; exact hy)
            have h2 := HST.out
            have h3 := HN.out
            have h4 := HLX.out
            omega
          · have hyl := (List.getElem?_eq_some_iff.1 hy).1
            refine HLO.out x y (fun h => ?_) (by rw [show i - 1 - a = ex - 1 by omega]; exact hx) (by rw [show pp - (i - 1) - m = ey by have := HN.out; omega]; exact hy)
            have h2 := HST.out
            have h3 := HN.out
            have h4 := HLY.out
            omega
        have HSP := hid hsp
        have HPP := hid hp
        have w7 : IntKind.i64.wrap ((n' : Int) - (i : Int)) = (e : Int) := by rw [IntWalk.i64_in _ (by omega)]; omega
        have hin : i ≤ n := by have := HN.out; omega
        have hen : e ≤ n := by have := HN.out; omega
        have hV : ∃ V, V = wr := ⟨_, rfl⟩
        obtain ⟨V, rfl⟩ := hV
        obtain ⟨X1, hX1⟩ : ∃ X1, X.take ex = X1 := ⟨_, rfl⟩
        obtain ⟨X2, hX2⟩ : ∃ X2, X.drop ex = X2 := ⟨_, rfl⟩
        obtain ⟨Y1, hY1⟩ : ∃ Y1, Y.take ey = Y1 := ⟨_, rfl⟩
        obtain ⟨Y2, hY2⟩ : ∃ Y2, Y.drop ey = Y2 := ⟨_, rfl⟩
        have HL1 : Hid (X1.length = ex) := hid (by rw [← hX1, List.length_take]; have := HLX.out; omega)
        have HL2 : Hid (X2.length + ex = lx) := hid (by rw [← hX2, List.length_drop]; have := HLX.out; omega)
        have HL3 : Hid (Y1.length = ey) := hid (by rw [← hY1, List.length_take]; have := HLY.out; omega)
        have HL4 : Hid (Y2.length + ey = ly) := hid (by rw [← hY2, List.length_drop]; have := HLY.out; omega)
        have HS1 : Hid (Srt ltS X1 ∧ Srt ltS X2 ∧ Srt ltS Y1 ∧ Srt ltS Y2) := hid ⟨by rw [← hX1]; exact srt_take HSX.out _, by rw [← hX2]; exact srt_drop HSX.out _, by rw [← hY1]; exact srt_take HSY.out _, by rw [← hY2]; exact srt_drop HSY.out _⟩
        have HD : Hid (P ++ (X ++ (Y ++ Q)) = (P ++ X1) ++ (X2 ++ (Y1 ++ (Y2 ++ Q)))) := hid (by rw [cut2 X ex, cut2 Y ey, hX1, hX2, hY1, hY2]; simp)
        rw [hX1, hX2, hY1, hY2] at HSP
        have HE1 : Hid (OwnS symR V wo.heap.size 27 All (.slice (some ⟨g, 0, none⟩) n c) ((P ++ X1) ++ (X2 ++ (Y1 ++ (Y2 ++ Q))))) := hid (by rw [← HD.out]; exact HE.out)
        clear hex hey he hp hsp hX1 hX2 hY1 hY2 HLO HHI HE
        obtain ⟨r1, hr1⟩ : ∃ r1, (decide (i < m) && decide (m < e)) = r1 := ⟨_, rfl⟩
        obtain ⟨r2, hr2⟩ : ∃ r2, (decide (a < i) && decide (i < mid)) = r2 := ⟨_, rfl⟩
        obtain ⟨r3, hr3⟩ : ∃ r3, (decide (mid < e) && decide (e < b)) = r3 := ⟨_, rfl⟩
        have HR1 := hid hr1
        have HR2 := hid hr2
        have HR3 := hid hr3
        clear hr1 hr2 hr3
        go_upto_region 39 with fail
        clear w7
        go_cut [185] from 178 to 185 (fun s185 wx => s185 = .bool r1 ∧ wx = V)
        case first =>
          have h5 := HR1.out
          by_cases q1 : i < m
          · by_cases q2 : m < e
            · have h6 : r1 = true := by rw [← h5]; simp [q1, q2]
              subst h6
              clear h5
              go_wp2
              go_meet
              exact ⟨rfl, rfl⟩
            · have h6 : r1 = false := by rw [← h5]; simp [q2]
              subst h6
              clear h5
              go_wp2
              go_meet
              exact ⟨rfl, rfl⟩
          · have h6 : r1 = false := by rw [← h5]; simp [q1]
            subst h6
            clear h5
            go_wp2
            go_meet
            exact ⟨rfl, rfl⟩
        case rest =>
          obtain ⟨rfl, rfl⟩ := hcut
          have hV : ∃ V1, V1 = wc := ⟨_, rfl⟩
          obtain ⟨V1, rfl⟩ := hV
          go_upto_if 185 with fail
          go_cut [] from 186 to 191 (fun wx => Hid (OwnS symR wx wo.heap.size 27 All (.slice (some ⟨g, 0, none⟩) n c) (P ++ (X1 ++ (Y1 ++ (X2 ++ (Y2 ++ Q)))))) ∧ Hid (Ext wo wx))
          case first =>
            have hp := HPP.out
            have h2 := HL2.out
            have h3 := HL3.out
            have h5 := HR1.out
            cases r1 with
            | false =>
              have hsw : (P ++ X1) ++ (X2 ++ (Y1 ++ (Y2 ++ Q))) = P ++ (X1 ++ (Y1 ++ (X2 ++ (Y2 ++ Q)))) := by
                have hor : X2 = [] ∨ Y1 = [] := by
                  rw [Bool.and_eq_false_iff] at h5
                  rcases h5 with h | h
                  · have := of_decide_eq_false h
                    exact .inl (List.length_eq_zero_iff.1 (by have := HN.out; omega))
                  · have := of_decide_eq_false h
                    exact .inr (List.length_eq_zero_iff.1 (by omega))
                rcases hor with e | e <;> rw [e] <;> simp
              have HF : Hid (OwnS symR V1 wo.heap.size 27 All (.slice (some ⟨g, 0, none⟩) n c) (P ++ (X1 ++ (Y1 ++ (X2 ++ (Y2 ++ Q)))))) := hid (by rw [← hsw]; exact HE1.out)
              clear hp h2 h3 h5 hsw
              go_wp2
              go_meet
              exact ⟨HF, HXR⟩
            | true =>
              rw [Bool.and_eq_true, decide_eq_true_iff, decide_eq_true_iff] at h5
              have HRT := hid (rotate_any wo V1 g n c (P ++ X1) X2 Y1 (Y2 ++ Q) HXR.out HE1.out (fun h => by rw [h] at h2; simp at h2; have := HN.out; omega) (fun h => by rw [h] at h3; simp at h3; omega) hn (.func (.func 37) #[] #[]) i m e (by rw [List.length_append]; have := HPL.out; have := HL1.out; omega) (by rw [List.length_append]; have := HPL.out; have := HL1.out; have := HN.out; omega) (by rw [List.length_append]; have := HPL.out; have := HL1.out; have := HN.out; omega))
              clear hp h2 h3 h5
              go_wp2_with fail
              refine (HRT.out).mono ?_
              rintro e' w5 ⟨rfl, hx5, ho5⟩
              have HF : Hid (OwnS symR w5 wo.heap.size 27 All (.slice (some ⟨g, 0, none⟩) n c) (P ++ (X1 ++ (Y1 ++ (X2 ++ (Y2 ++ Q)))))) := hid (by rw [List.append_assoc] at ho5; exact ho5)
              have HX5 := hid hx5
              clear ho5 hx5
              go_wp2
              go_meet
              exact ⟨HF, HX5⟩
          case rest =>
          obtain ⟨HE2, HX2⟩ := hcut
          have hV : ∃ V2, V2 = wc := ⟨_, rfl⟩
          obtain ⟨V2, rfl⟩ := hV
          go_upto_region 41 with fail
          go_cut [199] from 192 to 199 (fun s199 wx => s199 = .bool r2 ∧ wx = V2)
          case first =>
            have h5 := HR2.out
            by_cases q1 : a < i
            · by_cases q2 : i < mid
              · have h6 : r2 = true := by rw [← h5]; simp [q1, q2]
                subst h6
                clear h5
                go_wp2
                go_meet
                exact ⟨rfl, rfl⟩
              · have h6 : r2 = false := by rw [← h5]; simp [q2]
                subst h6
                clear h5
                go_wp2
                go_meet
                exact ⟨rfl, rfl⟩
            · have h6 : r2 = false := by rw [← h5]; simp [q1]
              subst h6
              clear h5
              go_wp2
              go_meet
              exact ⟨rfl, rfl⟩
          case rest =>
          obtain ⟨rfl, rfl⟩ := hcut
          have hV : ∃ V2, V2 = wc := ⟨_, rfl⟩
          obtain ⟨V2, rfl⟩ := hV
          go_upto_if 199 with fail
          go_cut [] from 200 to 205 (fun wx => Hid (OwnS symR wx wo.heap.size 27 All (.slice (some ⟨g, 0, none⟩) n c) (P ++ (mrg ltS X1 Y1 ++ (X2 ++ (Y2 ++ Q))))) ∧ Hid (Ext wo wx))
          case first =>
            have hp := HPP.out
            have h2 := HL1.out
            have h3 := HL3.out
            have h5 := HR2.out
            cases r2 with
            | false =>
              have hsw : mrg ltS X1 Y1 = X1 ++ Y1 := by
                refine mrg_nil2 ?_
                rw [Bool.and_eq_false_iff] at h5
                rcases h5 with h | h
                · have := of_decide_eq_false h
                  exact .inl (List.length_eq_zero_iff.1 (by omega))
                · have := of_decide_eq_false h
                  exact .inr (List.length_eq_zero_iff.1 (by omega))
              have HF : Hid (OwnS symR V2 wo.heap.size 27 All (.slice (some ⟨g, 0, none⟩) n c) (P ++ (mrg ltS X1 Y1 ++ (X2 ++ (Y2 ++ Q))))) := hid (by rw [hsw, List.append_assoc]; exact HE2.out)
              clear hp h2 h3 h5 hsw
              go_wp2
              go_meet
              exact ⟨HF, HX2⟩
            | true =>
              rw [Bool.and_eq_true, decide_eq_true_iff, decide_eq_true_iff] at h5
              have HRT := hid (HIH.out V2 P X1 Y1 (X2 ++ (Y2 ++ Q)) a i mid HX2.out HE2.out (fun h => by rw [h] at h2; simp at h2; omega) (fun h => by rw [h] at h3; simp at h3; omega) HS1.out.1 HS1.out.2.2.1 (by have := HLX.out; have := HLY.out; have := HN.out; omega) HPL.out (by have := HPL.out; omega) (by have := HPL.out; omega))
              clear hp h2 h3 h5
              go_wp2_with fail
              refine (HRT.out).mono ?_
              rintro e' w5 ⟨rfl, hx5, ho5⟩
              have HF := hid ho5
              have HX5 := hid hx5
              clear ho5 hx5
              go_wp2
              go_meet
              exact ⟨HF, HX5⟩
          case rest =>
          obtain ⟨HE3, HX3⟩ := hcut
          have hV : ∃ V3, V3 = wc := ⟨_, rfl⟩
          obtain ⟨V3, rfl⟩ := hV
          go_upto_region 43 with fail
          go_cut [213] from 206 to 213 (fun s213 wx => s213 = .bool r3 ∧ wx = V3)
          case first =>
            have h5 := HR3.out
            by_cases q1 : mid < e
            · by_cases q2 : e < b
              · have h6 : r3 = true := by rw [← h5]; simp [q1, q2]
                subst h6
                clear h5
                go_wp2
                go_meet
                exact ⟨rfl, rfl⟩
              · have h6 : r3 = false := by rw [← h5]; simp [q2]
                subst h6
                clear h5
                go_wp2
                go_meet
                exact ⟨rfl, rfl⟩
            · have h6 : r3 = false := by rw [← h5]; simp [q1]
              subst h6
              clear h5
              go_wp2
              go_meet
              exact ⟨rfl, rfl⟩
          case rest =>
          obtain ⟨rfl, rfl⟩ := hcut
          have hV : ∃ V3, V3 = wc := ⟨_, rfl⟩
          obtain ⟨V3, rfl⟩ := hV
          have hp := HPP.out
          have h2 := HL2.out
          have h3 := HL4.out
          have h5 := HR3.out
          have hml : (mrg ltS X1 Y1).length = X1.length + Y1.length := mrg_len _ (Nat.le_refl _)
          cases r3 with
          | false =>
            have hsw : mrg ltS X2 Y2 = X2 ++ Y2 := by
              refine mrg_nil2 ?_
              rw [Bool.and_eq_false_iff] at h5
              rcases h5 with h | h
              · have := of_decide_eq_false h
                exact .inl (List.length_eq_zero_iff.1 (by have := HN.out; omega))
              · have := of_decide_eq_false h
                exact .inr (List.length_eq_zero_iff.1 (by have := HN.out; omega))
            have HF : Hid (OwnS symR V3 wo.heap.size 27 All (.slice (some ⟨g, 0, none⟩) n c) (P ++ (mrg ltS X Y ++ Q))) := hid (by rw [HSP.out, hsw]; simpa using HE3.out)
            clear hp h2 h3 h5 hsw hml
            go_wp2
            (try simp only [Exit.inBlock, Exit.then])
            refine bodyPost_ret (results_none rfl _ _ _) rfl ?_
            exact ⟨rfl, HX3.out, HF.out⟩
          | true =>
            rw [Bool.and_eq_true, decide_eq_true_iff, decide_eq_true_iff] at h5
            have HRT := hid (HIH.out V3 (P ++ mrg ltS X1 Y1) X2 Y2 Q mid e b HX3.out (by rw [List.append_assoc]; exact HE3.out) (fun h => by rw [h] at h2; simp at h2; have := HN.out; omega) (fun h => by rw [h] at h3; simp at h3; have := HN.out; omega) HS1.out.2.1 HS1.out.2.2.2 (by have := HLX.out; have := HLY.out; have := HN.out; omega) (by rw [List.length_append, hml]; have := HPL.out; have := HL1.out; have := HL3.out; omega) (by rw [List.length_append, hml]; have := HPL.out; have := HL1.out; have := HL3.out; have := HN.out; omega) (by rw [List.length_append, hml]; have := HPL.out; have := HL1.out; have := HL3.out; have := HN.out; omega))
            clear hp h2 h3 h5 hml
            go_wp2_with fail
            refine (HRT.out).mono ?_
            rintro e' w5 ⟨rfl, hx5, ho5⟩
            have HF : Hid (OwnS symR w5 wo.heap.size 27 All (.slice (some ⟨g, 0, none⟩) n c) (P ++ (mrg ltS X Y ++ Q))) := hid (by rw [HSP.out]; simpa using ho5)
            have HX5 := hid hx5
            clear ho5 hx5
            go_wp2
            (try simp only [Exit.inBlock, Exit.then])
            refine bodyPost_ret (results_none rfl _ _ _) rfl ?_
            exact ⟨rfl, HX5.out, HF.out⟩

theorem symg_any (wo : World) (g n c : Nat) (hn : n ≤ 1000000) : ∀ N, SymgOk wo g n c N := by
  intro N
  induction N with
  | zero => intro w P X Y Q a m b _ _ _ _ _ _ h; omega
  | succ N ih =>
    intro w P X Y Q a m b hx ho hX0 hY0 hX hY hl ha hm hb
    have hX1 : 0 < X.length := List.length_pos_iff.2 hX0
    have hY1 : 0 < Y.length := List.length_pos_iff.2 hY0
    by_cases h1 : X.length = 1
    · obtain ⟨x, rfl⟩ := List.length_eq_one_iff.1 h1
      exact symg_l wo w g n c P Y Q x hx ho hY hn a m b ha (by simpa using hm) (by simpa using hb)
    by_cases h2 : Y.length = 1
    · obtain ⟨y, rfl⟩ := List.length_eq_one_iff.1 h2
      exact symg_r wo w g n c P X Q y hx (by rw [insP_all]; simpa using ho) hX h1 hn a m b ha hm (by simpa using hb)
    exact symg_big wo w g n c P X Y Q hx ho hX hY (by omega) (by omega) hn (fun w P' X' Y' Q' a' m' b' q1 q2 q3 q4 q5 q6 q7 q8 q9 q10 => ih w P' X' Y' Q' a' m' b' q1 q2 q3 q4 q5 q6 (by omega) q8 q9 q10) a m b ha hm hb
end Go.Proofs.YtekilcnkinmakaaDoor
