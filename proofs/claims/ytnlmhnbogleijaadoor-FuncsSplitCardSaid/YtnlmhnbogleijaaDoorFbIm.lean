/- FuncsSplit: the law walked. -/
import Derived.Test.YtnlmhnbogleijaaDoorFbGm
import Derived.Test.YtnlmhnbogleijaaDoorFunKm
import Derived.Test.YtnlmhnbogleijaaDoorInsm
namespace Go.Proofs.YtnlmhnbogleijaaDoor
open Go.RowKit Go.Deco
set_option linter.unusedSimpArgs false
set_option linter.unusedVariables false

/-- The blocks of the p-th function. -/
def blN (fs : List Fn18) (p : Nat) : List Nat := ((fs[p]?).map Fn18.blocks).getD []
theorem blN_eq {fs : List Fn18} {p : Nat} {f : Fn18} (h : fs[p]? = some f) : blN fs p = f.blocks := by unfold blN; rw [h]; rfl
/-- What the law's loops have found. -/
def InW (fs : List Fn18) (i k n y : Nat) : Prop :=
  (∃ p q, q < p ∧ p < i ∧ y ∈ blN fs p ∧ y ∈ blN fs q) ∨ (∃ q, q < k ∧ y ∈ blN fs i ∧ y ∈ blN fs q) ∨ (y ∈ (blN fs i).take n ∧ y ∈ blN fs k)
theorem InW.zero (fs : List Fn18) (y : Nat) : ¬ InW fs 0 0 0 y := by
  rintro (⟨p, q, _, h, _⟩ | ⟨q, h, _⟩ | ⟨h, _⟩)
  · omega
  · omega
  · simp at h
theorem InW.hit {fs : List Fn18} {i k n x : Nat} (hx : (blN fs i)[n]? = some x) (hk : x ∈ blN fs k) (y : Nat) : InW fs i k (n + 1) y ↔ y = x ∨ InW fs i k n y := by
  unfold InW
  rw [take_mem_snoc hx]
  constructor
  · rintro (h | h | ⟨h | h, h2⟩)
    · exact .inr (.inl h)
    · exact .inr (.inr (.inl h))
    · exact .inr (.inr (.inr ⟨h, h2⟩))
    · exact .inl h
  · rintro (rfl | h | h | ⟨h, h2⟩)
    · exact .inr (.inr ⟨.inr rfl, hk⟩)
    · exact .inl h
    · exact .inr (.inl h)
    · exact .inr (.inr ⟨.inl h, h2⟩)
theorem InW.miss {fs : List Fn18} {i k n x : Nat} (hx : (blN fs i)[n]? = some x) (hk : x ∉ blN fs k) (y : Nat) : InW fs i k (n + 1) y ↔ InW fs i k n y := by
  unfold InW
  rw [take_mem_snoc hx]
  constructor
  · rintro (h | h | ⟨h | rfl, h2⟩)
    · exact .inl h
    · exact .inr (.inl h)
    · exact .inr (.inr ⟨h, h2⟩)
    · exact absurd h2 hk
  · rintro (h | h | ⟨h, h2⟩)
    · exact .inl h
    · exact .inr (.inl h)
    · exact .inr (.inr ⟨.inl h, h2⟩)
theorem InW.next {fs : List Fn18} {i k n : Nat} (hn : (blN fs i).length ≤ n) (y : Nat) : InW fs i (k + 1) 0 y ↔ InW fs i k n y := by
  unfold InW
  rw [List.take_of_length_le hn]
  constructor
  · rintro (h | ⟨q, h1, h2, h3⟩ | ⟨h, _⟩)
    · exact .inl h
    · rcases Nat.lt_or_ge q k with h4 | h4
      · exact .inr (.inl ⟨q, h4, h2, h3⟩)
      · obtain rfl : q = k := by omega
        exact .inr (.inr ⟨h2, h3⟩)
    · simp at h
  · rintro (h | ⟨q, h1, h2⟩ | ⟨h, h2⟩)
    · exact .inl h
    · exact .inr (.inl ⟨q, by omega, h2⟩)
    · exact .inr (.inl ⟨k, by omega, h, h2⟩)
theorem InW.outer {fs : List Fn18} {i : Nat} (y : Nat) : InW fs (i + 1) 0 0 y ↔ InW fs i i 0 y := by
  unfold InW
  constructor
  · rintro (⟨p, q, h1, h2, h3⟩ | ⟨q, h, _⟩ | ⟨h, _⟩)
    · rcases Nat.lt_or_ge p i with h4 | h4
      · exact .inl ⟨p, q, h1, h4, h3⟩
      · obtain rfl : p = i := by omega
        exact .inr (.inl ⟨q, h1, h3⟩)
    · omega
    · simp at h
  · rintro (⟨p, q, h1, h2, h3⟩ | ⟨q, h, h3⟩ | ⟨h, _⟩)
    · exact .inl ⟨p, q, h1, by omega, h3⟩
    · exact .inl ⟨i, q, h, by omega, h3⟩
    · simp at h
theorem fnsOf_fnd {b : List Bs} {nm : Nat → ByteArray} {es : List Nat} {fs : List Fn18} (h : FnsOf b nm es fs) (he : es.Pairwise (· < ·)) {k : Nat} {f : Fn18} (hk : fs[k]? = some f) : fnd fs f.entry = some f := by
  unfold fnd
  rw [List.find?_eq_some_iff_append]
  obtain ⟨hl, rfl⟩ := List.getElem?_eq_some_iff.1 hk
  refine ⟨by simp, fs.take k, fs.drop (k + 1), ?_, fun g hg => ?_⟩
  · rw [← List.drop_eq_getElem_cons hl, List.take_append_drop]
  · obtain ⟨j, hj, rfl⟩ := List.mem_take_iff_getElem.1 hg
    have hjk : j < k := by omega
    have hjl : j < es.length := by rw [← h.1]; omega
    have hkl : k < es.length := by rw [← h.1]; exact hl
    have h1 := (h.2 j es[j] fs[j] (List.getElem?_eq_getElem hjl) (List.getElem?_eq_getElem (by omega))).entry
    have h2 := (h.2 k es[k] fs[k] (List.getElem?_eq_getElem hkl) (List.getElem?_eq_getElem hl)).entry
    have h3 := List.pairwise_iff_getElem.1 he j k hjl hkl hjk
    simp
    omega
theorem InW.all {b : List Bs} {nm : Nat → ByteArray} {es : List Nat} {fs : List Fn18} (h : FnsOf b nm es fs) (he : es.Pairwise (· < ·)) (y : Nat) : InW fs fs.length 0 0 y ↔ InTwo fs y := by
  have hb : ∀ {k : Nat} {f : Fn18}, fs[k]? = some f → blkOf fs f.entry = f.blocks := fun hk => by unfold blkOf; rw [fnsOf_fnd h he hk]
  constructor
  · rintro (⟨p, q, h1, h2, h3, h4⟩ | ⟨q, h, _⟩ | ⟨h, _⟩)
    · have hp : fs[p]? = some fs[p] := List.getElem?_eq_getElem h2
      have hq : fs[q]? = some fs[q] := List.getElem?_eq_getElem (by omega)
      rw [blN_eq hp, ← hb hp] at h3
      rw [blN_eq hq, ← hb hq] at h4
      refine ⟨_, _, entries_mem.2 ?_, entries_mem.2 ?_, fun e => ?_, h3, h4⟩
      · rw [fnsOf_fnd h he hp]; rfl
      · rw [fnsOf_fnd h he hq]; rfl
      · have e1 := fnsOf_fnd h he hp
        have e2 := fnsOf_fnd h he hq
        have hpl : p < es.length := by rw [← h.1]; exact h2
        have hql : q < es.length := by rw [← h.1]; omega
        have h5 := (h.2 p es[p] fs[p] (List.getElem?_eq_getElem hpl) hp).entry
        have h6 := (h.2 q es[q] fs[q] (List.getElem?_eq_getElem hql) hq).entry
        have h7 := List.pairwise_iff_getElem.1 he q p hql hpl h1
        omega
    · omega
    · simp at h
  · rintro ⟨e1, e2, h1, h2, hne, h3, h4⟩
    obtain ⟨f1, g1⟩ := fnd_some (entries_mem.1 h1)
    obtain ⟨f2, g2⟩ := fnd_some (entries_mem.1 h2)
    obtain ⟨p, hp, hp2⟩ := List.getElem_of_mem (fnd_mem g1)
    obtain ⟨q, hq, hq2⟩ := List.getElem_of_mem (fnd_mem g2)
    have hp3 : fs[p]? = some f1 := by rw [List.getElem?_eq_getElem hp, hp2]
    have hq3 : fs[q]? = some f2 := by rw [List.getElem?_eq_getElem hq, hq2]
    have x1 := fnd_entry g1
    have x2 := fnd_entry g2
    unfold blkOf at h3 h4
    rw [g1] at h3
    rw [g2] at h4
    simp only [] at h3 h4
    rw [← blN_eq hp3] at h3
    rw [← blN_eq hq3] at h4
    rcases Nat.lt_trichotomy p q with h | h | h
    · exact .inl ⟨q, p, h, hq, h4, h3⟩
    · subst h
      rw [hp3] at hq3
      cases hq3
      exact absurd (x1.symm.trans x2) hne
    · exact .inl ⟨p, q, h, hp, h3, h4⟩

set_option maxRecDepth 100000 in
set_option maxHeartbeats 8000000 in
theorem split_any (w : World) (ht : TabAt w) (A E : Option Addr) (n c ne ce : Nat) (b : List Bs) (es : List Nat) (hl : Sl bsR w All (.slice A n c) b) (he : Sl u32R w All (.slice E ne ce) es) :
    Calls Tryd.prog 5 #[.slice A n c, .slice E ne ce] w (OneBool w true) := by
  have hln := hl.len
  have hle := he.len
  have hcb := hl.cap
  have hce := he.cap
  have HLN := hid hln
  have HLE := hid hle
  have HB := hid hl
  have HE := hid he
  have HT := hid ht
  clear hl he ht hln hle
  go_enter Tryd.func5, Tryd.ntmps5
  go_wp2_with fail
  refine (fewb_any w A n c b HB.out).mono ?_
  rintro e w' ⟨⟨r, rfl, hr⟩, rfl⟩
  cases r with
  | false =>
    go_wp2_with fail
    refine (example_any _).mono ?_
    rintro e wz ⟨rfl, hxz⟩
    have HXZ := hid ((Ext.refl w).trans hxz)
    clear hxz
    go_wp2
    go_ret
    exact ⟨rfl, HXZ.out⟩
  | true =>
  obtain ⟨hn20, hok⟩ := hr rfl
  have HOK := hid hok
  clear hr hok
  by_cases h20 : 20 < ne
  · skip
    go_wp2_with fail
    refine (example_any _).mono ?_
    rintro e wz ⟨rfl, hxz⟩
    have HXZ := hid ((Ext.refl w).trans hxz)
    clear hxz
    go_wp2
    go_ret
    exact ⟨rfl, HXZ.out⟩
  go_wp2_with fail
  refine (basics_any w A n c b HB.out (by omega)).mono ?_
  rintro e w1 ⟨hx1, A1, c1, rfl, hs1⟩
  have HX1 := hid hx1
  rw [← HLN.out] at hs1 ⊢
  have HS1 := hid hs1
  clear hx1 hs1
  go_wp2_with fail
  refine (ffind2_any w1 (HT.out.ext HX1.out) A1 E none n c1 ne ce 0 0 b es [] HS1.out (HE.out.ext HX1.out) Sl.nil (by omega) (by omega) (okB_sizes HOK.out) (by simp)).mono ?_
  rintro e w2 ⟨hx2, A2, c2, fs, rfl, hs2, h0, h1, hbd⟩
  have HX2 := hid (HX1.out.trans hx2)
  have HS2 := hid hs2
  have HBD := hid hbd
  obtain ⟨er, her⟩ : ∃ er, findErr (checkBs b) b (asc es) = er := ⟨_, rfl⟩
  rw [her] at h0 h1 ⊢
  have HER := hid her
  clear hx2 hs2 hbd her
  by_cases hez : er = 0
  · have HFS := hid (h1 hez)
    subst hez
    clear h0 h1
    obtain ⟨N, hN⟩ : ∃ N, fs.length = N := ⟨_, rfl⟩
    have HN := hid hN
    rw [hN] at HS2 ⊢
    clear hN
    have hV : ∃ V, V = w2 := ⟨_, rfl⟩
    obtain ⟨V, rfl⟩ := hV
    have hnN : N ≤ 64 := by
      have h2 := HER.out
      have h3 := HFS.out.1
      have h4 := HN.out
      unfold findErr at h2
      split at h2
      · next h3 => exact absurd h2 h3
      · split at h2
        · cases h2
        · omega
    have HWL : Hid (∀ (W : List Nat), W.Pairwise (· < ·) → (∀ y ∈ W, ∃ p, y ∈ blN fs p) → W.length ≤ 20) := hid (fun W hW hm => by
      have h3 := nodup_sub_len (E := b.map Bs.addr) (pw_nodup hW) (fun y hy => by
        obtain ⟨p, hp⟩ := hm y hy
        unfold blN at hp
        cases hf : fs[p]? with
        | none => rw [hf] at hp; cases hp
        | some f =>
          rw [hf] at hp
          have hpl := (List.getElem?_eq_some_iff.1 hf).1
          have hel : p < (asc es).length := by rw [← HFS.out.1]; exact hpl
          exact isB_addr (((HFS.out.2 p _ f (List.getElem?_eq_getElem hel) hf).blocks y).1 hp).ends)
      rw [List.length_map, ← HLN.out] at h3
      omega)
    have HIW : Hid (∀ i k n y, InW fs i k n y → ∃ p, y ∈ blN fs p) := hid (fun i k n y h => by
      rcases h with ⟨p, q, _, _, h, _⟩ | ⟨q, _, h, _⟩ | ⟨_, h⟩
      · exact ⟨p, h⟩
      · exact ⟨i, h⟩
      · exact ⟨k, h⟩)
    go_wp2
    go_loopw [7, 8] (fun v i wr => ∃ (k : Nat) (A' : Option Addr) (c' : Nat) (W : List Nat), k ≤ N ∧ i = .int .i64 k ∧ v = .slice A' W.length c' ∧ Hid (W.Pairwise (· < ·)) ∧ Hid (∀ y, y ∈ W ↔ InW fs k 0 0 y) ∧ Hid (Sl u32R wr All (.slice A' W.length c') W) ∧ Hid (Ext V wr)) (fun _ i _ => N - (intOf i).toNat)
    case atStart => exact ⟨0, none, 0, [], by omega, rfl, rfl, hid List.Pairwise.nil, hid (fun y => iff_of_false List.not_mem_nil (InW.zero fs y)), hid Sl.nil, hid (Ext.refl _)⟩
    case round =>
      obtain ⟨i, A', c', W, hi, rfl, rfl, HWP, HWM, HWS, HX⟩ := hrel
      by_cases h1 : i < N
      · obtain ⟨f, hf⟩ : ∃ f, fs[i]? = some f := ⟨_, List.getElem?_eq_getElem (by have := HN.out; omega)⟩
        have HF := hid hf
        clear hf
        go_wp2
        go_loopw [7, 9] (fun v j wr => ∃ (k : Nat) (A' : Option Addr) (c' : Nat) (W : List Nat), k ≤ i ∧ j = .int .i64 k ∧ v = .slice A' W.length c' ∧ Hid (W.Pairwise (· < ·)) ∧ Hid (∀ y, y ∈ W ↔ InW fs i k 0 y) ∧ Hid (Sl u32R wr All (.slice A' W.length c') W) ∧ Hid (Ext V wr)) (fun _ j _ => i - (intOf j).toNat)
        case atStart => exact ⟨0, A', c', W, by omega, rfl, rfl, HWP, HWM, HWS, HX⟩
        case round =>
          obtain ⟨k, A3, c3, W3, hk, rfl, rfl, HWP3, HWM3, HWS3, HX3⟩ := hrel
          by_cases h2 : k < i
          · obtain ⟨g, hg⟩ : ∃ g, fs[k]? = some g := ⟨_, List.getElem?_eq_getElem (by have := HN.out; omega)⟩
            have HG := hid hg
            clear hg
            have h3 : k < N := by omega
            obtain ⟨nb, hnb⟩ : ∃ nb, f.blocks.length = nb := ⟨_, rfl⟩
            have HNB := hid hnb
            have hbb : nb ≤ 20 := by
              have h4 := (HBD.out f (List.mem_of_getElem? HF.out)).1
              have h5 := HLN.out
              omega
            clear hnb
            go_wp2
            go_loopw [7, 10] (fun v j wr => ∃ (q : Nat) (A' : Option Addr) (c' : Nat) (W : List Nat), q ≤ nb ∧ j = .int .i64 q ∧ v = .slice A' W.length c' ∧ Hid (W.Pairwise (· < ·)) ∧ Hid (∀ y, y ∈ W ↔ InW fs i k q y) ∧ Hid (Sl u32R wr All (.slice A' W.length c') W) ∧ Hid (Ext V wr)) (fun _ j _ => nb - (intOf j).toNat)
            case atStart => exact ⟨0, A3, c3, W3, by omega, rfl, rfl, HWP3, HWM3, HWS3, HX3⟩
            case round =>
              obtain ⟨q, A4, c4, W4, hq, rfl, rfl, HWP4, HWM4, HWS4, HX4⟩ := hrel
              obtain ⟨bf, of, bA, bc, cA, cc, rfl, hbl, -, -, -, -, -, x2, -, -⟩ := Sl_fn_at (HS2.out.ext HX4.out) HF.out
              obtain ⟨bf', of', gA, gc, dA, dc, hAA, hgl, -, -, -, -, -, g2, -, -⟩ := Sl_fn_at (HS2.out.ext HX4.out) HG.out
              cases hAA
              rw [HNB.out] at x2 hbl
              have hbc := hbl.cap
              obtain ⟨ng, hng⟩ : ∃ ng, g.blocks.length = ng := ⟨_, rfl⟩
              rw [hng] at g2 hgl
              have HGL := hid hgl
              have HBL := hid hbl
              clear hgl hbl hng
              by_cases h4 : q < nb
              · obtain ⟨y, hy⟩ : ∃ y, f.blocks[q]? = some y := ⟨_, List.getElem?_eq_getElem (by have := HNB.out; omega)⟩
                obtain ⟨bq, oq, rfl, cy, hy32⟩ := Sl.num_at HBL.out hy
                have hyb : (blN fs i)[q]? = some y := by rw [blN_eq HF.out]; exact hy
                have HY := hid hyb
                have HYX := hid (And.intro x2 cy)
                obtain ⟨r, hr⟩ : ∃ r, g.blocks.contains y = r := ⟨_, rfl⟩
                have HR := hid hr
                clear hy hyb hr
                go_upto_region 16 with fail
                refine wp_region_held_drew (S := (fun w' => w'.cell? ⟨bf, of + i * 5 + 2, none⟩ = some (.slice (some ⟨bq, oq, none⟩) nb bc) ∧ w'.cell? ⟨bf, of + k * 5 + 2, none⟩ = some (.slice gA ng gc) ∧ w'.cell? ⟨bq, oq + q, none⟩ = some (.int .u32 y))) (by kernel_rfl) ⟨x2, g2, cy⟩ (fun hSR0 => ?_)
                refine wpAnyH_takeL (i := 0) (v := ?Rv0) rfl (by kernel_rfl) (by kernel_rfl) (by kernel_rfl) (fun _ _ _ h => h) (Or.inl ⟨by rfl, ?Ry0⟩) (by assumption) ?Rr0
                case Ry0 => first | (intro w hSw; (try dsimp only at hSw); go_simp; done) | (intro w hSw; (try dsimp only at hSw); go_simp; with_reducible rfl)
                case' Rr0 => try simp only [Act.put, List.setIfInBounds_toArray, List.set_cons_zero, List.set_cons_succ]
                refine wpAnyH_takeL (i := 1) (v := ?Rv1) rfl (by kernel_rfl) (by kernel_rfl) (by kernel_rfl) (fun _ _ _ h => h) (Or.inl ⟨by rfl, ?Ry1⟩) (by assumption) ?Rr1
                case Ry1 => first | (intro w hSw; (try dsimp only at hSw); go_simp; done) | (intro w hSw; (try dsimp only at hSw); go_simp; with_reducible rfl)
                case' Rr1 => try simp only [Act.put, List.setIfInBounds_toArray, List.set_cons_zero, List.set_cons_succ]
                refine wpAnyH_takeL (i := 2) (v := ?Rv2) rfl (by kernel_rfl) (by kernel_rfl) (by kernel_rfl) (fun _ _ _ h => h) (Or.inl ⟨by rfl, ?Ry2⟩) (by assumption) ?Rr2
                case Ry2 => first | (intro w hSw; (try dsimp only at hSw); go_simp; done) | (intro w hSw; (try dsimp only at hSw); go_simp; with_reducible rfl)
                case' Rr2 => try simp only [Act.put, List.setIfInBounds_toArray, List.set_cons_zero, List.set_cons_succ]
                refine wpAnyH_takeL (i := 3) (v := ?Rv3) rfl (by kernel_rfl) (by kernel_rfl) (by kernel_rfl) (fun _ _ _ h => h) (Or.inl ⟨by rfl, ?Ry3⟩) (by assumption) ?Rr3
                case Ry3 => first | (intro w hSw; (try dsimp only at hSw); go_simp; done) | (intro w hSw; (try dsimp only at hSw); go_simp; with_reducible rfl)
                case' Rr3 => try simp only [Act.put, List.setIfInBounds_toArray, List.set_cons_zero, List.set_cons_succ]
                refine wpAnyH_takeL (i := 4) (v := ?Rv4) rfl (by kernel_rfl) (by kernel_rfl) (by kernel_rfl) (fun _ _ _ h => h) (Or.inl ⟨by rfl, ?Ry4⟩) (by assumption) ?Rr4
                case Ry4 => first | (intro w hSw; (try dsimp only at hSw); go_simp; done) | (intro w hSw; (try dsimp only at hSw); go_simp; with_reducible rfl)
                case' Rr4 => try simp only [Act.put, List.setIfInBounds_toArray, List.set_cons_zero, List.set_cons_succ]
                refine wpAnyH_takeL (i := 5) (v := ?Rv5) rfl (by kernel_rfl) (by kernel_rfl) (by kernel_rfl) (fun _ _ _ h => h) (Or.inl ⟨by rfl, ?Ry5⟩) (by assumption) ?Rr5
                case Ry5 => first | (intro w hSw; (try dsimp only at hSw); go_simp; done) | (intro w hSw; (try dsimp only at hSw); go_simp; with_reducible rfl)
                case' Rr5 => try simp only [Act.put, List.setIfInBounds_toArray, List.set_cons_zero, List.set_cons_succ]
                refine wpAnyH_takeL (i := 6) (v := ?Rv6) rfl (by kernel_rfl) (by kernel_rfl) (by kernel_rfl) (fun _ _ _ h => h) (Or.inl ⟨by rfl, ?Ry6⟩) (by assumption) ?Rr6
                case Ry6 => first | (intro w hSw; (try dsimp only at hSw); go_simp; done) | (intro w hSw; (try dsimp only at hSw); go_simp; with_reducible rfl)
                case' Rr6 => try simp only [Act.put, List.setIfInBounds_toArray, List.set_cons_zero, List.set_cons_succ]
                refine wpAnyH_takeL (i := 7) (v := ?Rv7) rfl (by kernel_rfl) (by kernel_rfl) (by kernel_rfl) (fun _ _ _ h => h) (Or.inl ⟨by rfl, ?Ry7⟩) (by assumption) ?Rr7
                case Ry7 => first | (intro w hSw; (try dsimp only at hSw); go_simp; done) | (intro w hSw; (try dsimp only at hSw); go_simp; with_reducible rfl)
                case' Rr7 => try simp only [Act.put, List.setIfInBounds_toArray, List.set_cons_zero, List.set_cons_succ]
                refine wpAnyH_takeL (i := 8) (v := ?Rv8) rfl (by kernel_rfl) (by kernel_rfl) (by kernel_rfl) (fun _ _ _ h => h) (Or.inl ⟨by rfl, ?Ry8⟩) (by assumption) ?Rr8
                case Ry8 => first | (intro w hSw; (try dsimp only at hSw); go_simp; done) | (intro w hSw; (try dsimp only at hSw); go_simp; with_reducible rfl)
                case' Rr8 => try simp only [Act.put, List.setIfInBounds_toArray, List.set_cons_zero, List.set_cons_succ]
                refine wpAnyH_takeL (i := 9) (v := ?Rv9) rfl (by kernel_rfl) (by kernel_rfl) (by kernel_rfl) (fun _ _ _ h => h) (Or.inl ⟨by rfl, ?Ry9⟩) (by assumption) ?Rr9
                case Ry9 => first | (intro w hSw; (try dsimp only at hSw); go_simp; done) | (intro w hSw; (try dsimp only at hSw); go_simp; with_reducible rfl)
                case' Rr9 => try simp only [Act.put, List.setIfInBounds_toArray, List.set_cons_zero, List.set_cons_succ]
                refine wpAnyH_takeL (i := 10) (v := ?Rv10) rfl (by kernel_rfl) (by kernel_rfl) (by kernel_rfl) (fun _ _ _ h => h) (Or.inl ⟨by rfl, ?Ry10⟩) (by assumption) ?Rr10
                case Ry10 => first | (intro w hSw; (try dsimp only at hSw); go_simp; done) | (intro w hSw; (try dsimp only at hSw); go_simp; with_reducible rfl)
                case' Rr10 => try simp only [Act.put, List.setIfInBounds_toArray, List.set_cons_zero, List.set_cons_succ]
                refine wpAnyH_takeL (i := 11) (v := ?Rv11) rfl (by kernel_rfl) (by kernel_rfl) (by kernel_rfl) (fun _ _ _ h => h) (Or.inl ⟨by rfl, ?Ry11⟩) (by assumption) ?Rr11
                case Ry11 => first | (intro w hSw; (try dsimp only at hSw); go_simp; done) | (intro w hSw; (try dsimp only at hSw); go_simp; with_reducible rfl)
                case' Rr11 => try simp only [Act.put, List.setIfInBounds_toArray, List.set_cons_zero, List.set_cons_succ]
                refine wpAnyH_takeL (i := 12) (v := ?Rv12) rfl (by kernel_rfl) (by kernel_rfl) (by kernel_rfl) (fun _ _ _ h => h) (Or.inl ⟨by rfl, ?Ry12⟩) (by assumption) ?Rr12
                case Ry12 => first | (intro w hSw; (try dsimp only at hSw); go_simp; done) | (intro w hSw; (try dsimp only at hSw); go_simp; with_reducible rfl)
                case' Rr12 => try simp only [Act.put, List.setIfInBounds_toArray, List.set_cons_zero, List.set_cons_succ]
                refine wpAnyH_ready (rs := [13]) (by kernel_rfl) (by simp) ?_
                refine AllReadyH.consL rfl (fun K hK => ?_) AllReadyH.nil
                go_simp
                go_at_call 11
                refine (has_any _ All gA ng gc g.blocks (HGL.out.ext ((Ext.refl _).drew)) y).mono ?_
                rintro e w6 ⟨rfl, rfl⟩
                rw [HR.out]
                refine hK.out _ _ (by assumption) (fun hSR1 => ?_)
                clear hK K
                try simp only [Act.put, List.setIfInBounds_toArray, List.set_cons_zero, List.set_cons_succ]
                refine wpAnyH_done (by kernel_rfl) ?_ _
                cases r with
                | false =>
                  have hno : y ∉ blN fs k := by
                    rw [blN_eq HG.out, ← List.contains_iff_mem, HR.out]
                    exact Bool.noConfusion
                  have HNO := hid hno
                  clear hno
                  go_wp2
                  first
                    | go_roundw
                    | refine ⟨?rel, ?measure⟩
                  case rel => exact ⟨q + 1, A4, c4, W4, by omega, by go_num, rfl, HWP4, hid (fun z => (HWM4.out z).trans (InW.miss HY.out HNO.out z).symm), hid (HWS4.out.ext (Ext.refl _).drew), hid HX4.out.drew⟩
                  case measure => simp [intOf]; omega
                | true =>
                  have hyes : y ∈ blN fs k := by
                    rw [blN_eq HG.out, ← List.contains_iff_mem, HR.out]
                  have HYES := hid hyes
                  have HWLN := hid (HWL.out W4 HWP4.out (fun z hz => HIW.out i k q z ((HWM4.out z).1 hz)))
                  have HWD := hid (HWS4.out.ext (Ext.refl _).drew)
                  clear hyes
                  go_wp2_with fail
                  refine (insert_any _ _ (Ext.refl _) A4 W4.length c4 W4 HWD.out (by have := HWLN.out; omega) y hy32).mono ?_
                  rintro e w9 ⟨hx9, A9, c9, rfl, hs9⟩
                  have HX9 := hid (HX4.out.drew.trans hx9)
                  have HS9 := hid hs9
                  clear hx9 hs9
                  go_wp2
                  first
                    | go_roundw
                    | refine ⟨?rel, ?measure⟩
                  case rel =>
                    refine ⟨q + 1, A9, c9, insOf W4 y, by omega, by go_num, rfl, hid (ins_asc HWP4.out), hid (fun z => ?_), HS9, HX9⟩
                    rw [ins_mem, HWM4.out, InW.hit HY.out HYES.out z]
                  case measure => simp [intOf]; omega
              · obtain rfl : q = nb := by omega
                go_wp2
                first
                  | go_roundw
                  | refine ⟨?rel, ?measure⟩
                case rel => exact ⟨k + 1, A4, c4, W4, by omega, by go_num, rfl, HWP4, hid (fun y => (HWM4.out y).trans (InW.next (by rw [blN_eq HF.out, HNB.out]; exact Nat.le_refl _) y).symm), HWS4, HX4⟩
                case measure => simp [intOf]; omega
          · obtain rfl : k = i := by omega
            go_wp2
            first
              | go_roundw
              | refine ⟨?rel, ?measure⟩
            case rel => exact ⟨k + 1, A3, c3, W3, by omega, by go_num, rfl, HWP3, hid (fun y => (HWM3.out y).trans (InW.outer y).symm), HWS3, HX3⟩
            case measure => simp [intOf]; omega
      · obtain rfl : i = N := by omega
        have HTW : Hid (∀ y, y ∈ W ↔ InTwo fs y) := hid (fun y => (HWM.out y).trans (by rw [← HN.out]; exact InW.all HFS.out (asc_pw es) y))
        have HXW := hid (HX2.out.trans HX.out)
        have HFB : Hid (∀ f ∈ fs, f.blocks.length ≤ 1000) := hid (fun f hf => by have h4 := (HBD.out f hf).1; have h5 := HLN.out; omega)
        clear h1
        go_wp2_with fail
        refine (fshared_any wr A2 i c2 fs (HS2.out.ext HX.out) (by omega) HFB.out W HWP.out HTW.out).mono ?_
        rintro e w7 ⟨hx7, A7, c7, rfl, hs7⟩
        have HX7 := hid (HXW.out.trans hx7)
        have HS7 := hid hs7
        have HW7 := hid (HWS.out.ext hx7)
        obtain ⟨m, hm⟩ : ∃ m, W.length = m := ⟨_, rfl⟩
        rw [hm] at HS7 HW7 ⊢
        clear hx7 hs7 hm
        go_wp2_with fail
        refine (words_any w7 w7 (Ext.refl _) A7 A' m m c7 c' W W HS7.out HW7.out).mono ?_
        rintro e w8 ⟨rfl, hx8⟩
        have hd3 : decide (W = W) = true := by simp
        rw [hd3]
        have HX8 := hid (HX7.out.trans hx8)
        clear hx8 hd3
        go_wp2_with fail
        refine (example_any _).mono ?_
        rintro e wz ⟨rfl, hxz⟩
        have HXZ := hid ((HX8.out).trans hxz)
        clear hxz
        go_wp2
        go_ret
        exact ⟨rfl, HXZ.out⟩
  · have hfs := h0 hez
    subst hfs
    have hez2 : ((er : Int) != 0) = true := by simpa using hez
    clear h0 h1 hez
    go_wp2_with fail
    refine (example_any _).mono ?_
    rintro e wz ⟨rfl, hxz⟩
    have HXZ := hid ((HX2.out).trans hxz)
    clear hxz
    go_wp2
    go_ret
    exact ⟨rfl, HXZ.out⟩
end Go.Proofs.YtnlmhnbogleijaaDoor
