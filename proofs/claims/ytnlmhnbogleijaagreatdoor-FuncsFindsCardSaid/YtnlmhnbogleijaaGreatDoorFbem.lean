/- funcs.Find. The helpers of the laws on functions: fewBlocks, fewSymbols, basics, called, BlockOf. -/
import Derived.Test.YtnlmhnbogleijaaGreatDoorFbDm
import Derived.Test.YtnlmhnbogleijaaGreatDoorFbNm
import Derived.Test.YtnlmhnbogleijaaGreatDoorChkm
import Derived.Test.YtnlmhnbogleijaaGreatDoorFunFm
namespace Go.Proofs.YtnlmhnbogleijaaGreatDoor
open Go Go.RowKit Go.Deco
set_option linter.unusedSimpArgs false
set_option linter.unusedVariables false

theorem blkA_snoc {b : List Bs} {k : Nat} {x : Bs} (h : b[k]? = some x) (y : Nat) : blkA (b.take (k + 1)) y = (blkA (b.take k) y).or (if x.addr = y then some x else none) := by
  unfold blkA
  rw [take_snoc' h, List.find?_append]
  congr 1
  by_cases e : x.addr = y <;> simp [e]
theorem AtF.nil (wo : World) : AtF [] wo (fun _ => none) := ⟨fun _ _ => rfl, fun x s h => by simp [blkA] at h⟩
theorem AtF.old {b : List Bs} {k : Nat} {x s : Bs} {wo : World} {F : Nat → Option Value} (h : AtF (b.take k) wo F) (hk : b[k]? = some x) (hs : blkA (b.take k) x.addr = some s) : AtF (b.take (k + 1)) wo F := by
  have key : ∀ y, blkA (b.take (k + 1)) y = blkA (b.take k) y := fun y => by
    rw [blkA_snoc hk]
    by_cases e : x.addr = y
    · subst e
      rw [hs]
      rfl
    · rw [if_neg e]
      cases blkA (b.take k) y <;> rfl
  exact ⟨fun y hy => h.1 y (by rw [← key]; exact hy), fun y s hy => h.2 y s (by rw [← key]; exact hy)⟩
theorem AtF.new {b : List Bs} {k : Nat} {x : Bs} {wo : World} {F : Nat → Option Value} (h : AtF (b.take k) wo F) (hk : b[k]? = some x) (hs : blkA (b.take k) x.addr = none) {v1 v2 v3 : Value} (h1 : Sl insR wo All v1 x.ins) (h2 : Sl u32R wo All v2 x.succ) (h3 : Sl u32sR wo All v3 x.calls) :
    AtF (b.take (k + 1)) wo (fun y => if y = x.addr then some (.agg #[.int .u32 x.addr, .int .u32 x.end_, v1, v2, v3]) else F y) := by
  refine ⟨fun y hy => ?_, fun y s hy => ?_⟩
  · rw [blkA_snoc hk] at hy
    by_cases e : y = x.addr
    · subst e
      rw [hs] at hy
      simp at hy
    · simp only [if_neg e]
      refine h.1 y ?_
      cases hb : blkA (b.take k) y with
      | none => rfl
      | some t => rw [hb] at hy; cases hy
  · rw [blkA_snoc hk] at hy
    by_cases e : y = x.addr
    · subst e
      rw [hs] at hy
      simp at hy
      subst hy
      refine ⟨v1, v2, v3, ?_, h1, h2, h3⟩
      simp
    · simp only [if_neg e]
      refine h.2 y s ?_
      cases hb : blkA (b.take k) y with
      | none => rw [hb, if_neg (fun e' => e e'.symm)] at hy; cases hy
      | some t => rw [hb] at hy; exact hy
theorem AtF.ext {b : List Bs} {w w' : World} {F : Nat → Option Value} (h : AtF b w F) (he : Ext w w') : AtF b w' F := ⟨h.1, fun x s hs => by
  obtain ⟨v1, v2, v3, h0, h1, h2, h3⟩ := h.2 x s hs
  exact ⟨v1, v2, v3, h0, h1.ext he, h2.ext he, h3.ext he⟩⟩
theorem FnOf.rename {b : List Bs} {nm nm' : ByteArray} {a : Nat} {f : Fn18} (h : FnOf b nm a f) : FnOf b nm' a ⟨f.entry, nm', f.blocks, f.calls, f.leaf⟩ := ⟨h.entry, rfl, h.asc, h.blocks, h.ascC, h.calls, h.leaf⟩
theorem atSy_mem {l : List Sy} {a : Nat} {s : Sy} (h : atSy l a = some s) : s ∈ l := by
  have key : ∀ (l : List Sy) (o : Option Sy), l.foldl (atStep a) o = some s → s ∈ l ∨ o = some s := by
    intro l
    induction l with
    | nil => intro o h; exact .inr h
    | cons x t ih =>
      intro o h
      rcases ih _ h with h1 | h1
      · exact .inl (List.mem_cons_of_mem _ h1)
      · unfold atStep at h1
        split at h1
        · split at h1
          · cases h1; exact .inl (List.mem_cons_self ..)
          · exact .inr h1
        · exact .inr h1
  rcases key l none h with h1 | h1
  · exact h1
  · cases h1
theorem fnName_size {l : List Sy} (hs : ∀ s ∈ l, s.name.size ≤ maxLen) (a : Nat) : (fnName l a).size ≤ maxLen := by
  unfold fnName
  cases h : atSy l a with
  | some s =>
    refine hs s ?_
    exact atSy_mem h
  | none =>
    rw [strOf_size]
    have := hexN_len 8 a
    have e : (102 :: 95 :: hexD a).length = (hexD a).length + 2 := by simp
    rw [e]
    unfold hexD maxLen
    omega

/-- What Find returns. -/
def FindsPost (w : World) (b : List Bs) (es : List Nat) (l : List Sy) (e : Ending) (w' : World) : Prop :=
  Ext w w' ∧ ∃ A c fs, e = .returned (.tuple #[.slice A fs.length c, .int .i64 (findErr (checkBs b) b (asc es))]) ∧ Sl fnR w' All (.slice A fs.length c) fs ∧
    (findErr (checkBs b) b (asc es) ≠ 0 → fs = []) ∧ (findErr (checkBs b) b (asc es) = 0 → FnsOf b (fnName l) (asc es) fs) ∧ ∀ f ∈ fs, f.blocks.length ≤ b.length ∧ f.calls.length ≤ 1000000

set_option maxRecDepth 100000 in
set_option maxHeartbeats 4000000 in
theorem ffind2_any (w : World) (ht : TabAt w) (A E Y : Option Addr) (n c ne ce ny cy : Nat) (b : List Bs) (es : List Nat) (l : List Sy) (hl : Sl bsR w All (.slice A n c) b) (he : Sl u32R w All (.slice E ne ce) es) (hy : Sl symR w All (.slice Y ny cy) l)
    (hn : n ≤ 500) (hne : ne ≤ 1000000) (hb : ∀ s ∈ b, s.ins.length ≤ 100 ∧ s.calls.flatten.length ≤ 900) (hsz : ∀ s ∈ l, s.name.size ≤ maxLen) :
    Calls Tryz.prog 7 #[.slice A n c, .slice E ne ce, .slice Y ny cy] w (FindsPost w b es l) := by
  have hmm := @run_makeMap Tryz.prog
  obtain ⟨ck, hck⟩ : ∃ ck, checkBs b = ck := ⟨_, rfl⟩
  obtain ⟨L, hL⟩ : ∃ L, asc es = L := ⟨_, rfl⟩
  obtain ⟨er, her⟩ : ∃ er, findErr ck b L = er := ⟨_, rfl⟩
  unfold FindsPost
  rw [hck, hL, her]
  have HCK := hid hck
  have HL := hid hL
  have HER := hid her
  have HB := hid hl
  have HE := hid he
  have HY := hid hy
  have HT := hid ht
  have HBB := hid hb
  have HSZ := hid hsz
  have hln := hl.len
  have HLN := hid hln
  have hcap := hl.cap
  clear hck hL her hl he hy ht hb hsz hln
  go_enter Tryz.func7, Tryz.ntmps7
  go_wp2_with fail
  refine (check_any w A n c b HB.out).mono ?_
  rintro e w1 ⟨rfl, hx1⟩
  rw [HCK.out]
  have HX1 := hid hx1
  clear hx1
  by_cases h0 : ck = 0
  · subst h0
    go_wp2_with fail
    refine (fsorted_any w1 All E ne ce es (HE.out.ext HX1.out) hne).mono ?_
    rintro e w2 ⟨hx2, A2, c2, rfl, ho2⟩
    rw [HL.out] at ho2 ⊢
    have HX2 := hid (HX1.out.trans hx2)
    have HO2 := hid (ho2.num_sl (S := All) (fun _ _ => trivial))
    obtain ⟨m, hm⟩ : ∃ m, L.length = m := ⟨_, rfl⟩
    have HM' := hid hm
    rw [hm] at HO2 ⊢
    clear hx2 ho2 hm
    have HLP : Hid (L.Pairwise (· < ·)) := hid (by rw [← HL.out]; exact asc_pw _)
    by_cases h64 : m ≤ 64
    · obtain ⟨WM, hWM⟩ : ∃ WM, w2.alloc (.map #[] 0) = WM := ⟨_, rfl⟩
      have hm0 : MapG (u32K Tryz.underlying38) WM w2.heap.size 0 (fun _ => none) := by rw [← hWM]; exact MapG.made (u32K Tryz.underlying38) w2
      have hXM : Ext w2 WM := by rw [← hWM]; exact (Ext.refl w2).alloc _
      have HXM := hid (HX2.out.trans hXM)
      have HXM2 := hid hXM
      have HM0 := hid hm0
      have HZM : Hid (w.heap.size ≤ w2.heap.size) := hid HX2.out.size
      clear hm0 hXM
      go_wp2
      clear hWM hmm
      go_loopw [34] (fun i wr => ∃ (t q : Nat) (F : Nat → Option Value), t ≤ n ∧ i = .int .i64 t ∧ q ≤ t ∧ Hid (AtF (b.take t) w F) ∧ Hid (MapG (u32K Tryz.underlying38) wr w2.heap.size q F) ∧ Hid (WM.grownBy wr (some w2.heap.size))) (fun i _ => n - (intOf i).toNat)
      case atStart => exact ⟨0, 0, _, by omega, rfl, by omega, hid (AtF.nil w), HM0, hid (World.grownBy.refl _ _)⟩
      case round =>
        obtain ⟨t, q, F, ht, rfl, hqt, HF, HM, HG⟩ := hrel
        have HX := hid (HXM.out.grown HG.out (fun j hj => by cases hj; exact HZM.out))
        by_cases h1 : t < n
        · obtain ⟨x, hx⟩ : ∃ x, b[t]? = some x := ⟨_, List.getElem?_eq_getElem (by have := HLN.out; omega)⟩
          obtain ⟨bb, off, A1, c1, A3, c3, A4, c4, rfl, hin, hsu, hca, hxa, -, e0, e1, e2, e3, e4⟩ := Sl.bs_at HB.out hx
          have e0 := HX.out.cell e0
          have e1 := HX.out.cell e1
          have e2 := HX.out.cell e2
          have e3 := HX.out.cell e3
          have e4 := HX.out.cell e4
          obtain ⟨W1, hW1⟩ : ∃ W1, wr.alloc (.cells #[.int .u32 x.addr, .int .u32 x.end_, .slice A1 x.ins.length c1, .slice A3 x.succ.length c3, .slice A4 x.calls.length c4] 55) = W1 := ⟨_, rfl⟩
          have hE1 : Ext wr W1 := by rw [← hW1]; exact (Ext.refl wr).alloc _
          have p0 : W1.cell? ⟨wr.heap.size, 0, none⟩ = some (.int .u32 x.addr) := by rw [← hW1]; simp [go_sem]
          have p1 : W1.cell? ⟨wr.heap.size, 1, none⟩ = some (.int .u32 x.end_) := by rw [← hW1]; simp [go_sem]
          have p2 : W1.cell? ⟨wr.heap.size, 2, none⟩ = some (.slice A1 x.ins.length c1) := by rw [← hW1]; simp [go_sem]
          have p3 : W1.cell? ⟨wr.heap.size, 3, none⟩ = some (.slice A3 x.succ.length c3) := by rw [← hW1]; simp [go_sem]
          have p4 : W1.cell? ⟨wr.heap.size, 4, none⟩ = some (.slice A4 x.calls.length c4) := by rw [← hW1]; simp [go_sem]
          have HXX := hid hx
          have HXA := hid hxa
          have HSL := hid (And.intro hin (And.intro hsu hca))
          have HM1 := hid (HM.out.ext hE1)
          have HE1 := hid hE1
          clear hx hxa hin hsu hca hE1
          obtain ⟨o, ho⟩ : ∃ o, blkA (b.take t) x.addr = o := ⟨_, rfl⟩
          cases o with
          | some s =>
            obtain ⟨v1, v2, v3, hf, g1, g2, g3⟩ := HF.out.2 _ s ho
            obtain ⟨B1, d1, rfl, -⟩ := g1.form
            obtain ⟨B2, d2, rfl, -⟩ := g2.form
            obtain ⟨B3, d3, rfl, -⟩ := g3.form
            have HV : Hid ((F x.addr).getD (.agg #[.int .u32 0, .int .u32 0, .slice none 0 0, .slice none 0 0, .slice none 0 0]) = .agg #[.int .u32 s.addr, .int .u32 s.end_, .slice B1 s.ins.length d1, .slice B2 s.succ.length d2, .slice B3 s.calls.length d3]) := hid (by rw [hf]; rfl)
            have HI : Hid ((F x.addr).isSome = true) := hid (by rw [hf]; rfl)
            have HO := hid ho
            clear hf g1 g2 g3 ho
            go_wp2_with (first
              | (at_lookup; refine wpList_lookOk _ rfl (.tmp 39) (.tmp 41) 54 rfl 55 Tryz.underlying54 _ (zero_bas _) (u32K Tryz.underlying38) w2.heap.size q F rfl HM1.out x.addr rfl HXA.out _ HV.out true HI.out ?_)
              | fail)
            first
              | go_roundw
              | refine ⟨?rel, ?measure⟩
            case rel => exact ⟨t + 1, q, F, by omega, by go_num, by omega, hid (HF.out.old HXX.out HO.out), hid (HM1.out.ext ((Ext.refl _).alloc _)), hid (grown17 HG.out ((HE1.out.alloc _).grownBy _))⟩
            case measure => simp [intOf]; omega
          | none =>
            have hf : F x.addr = none := HF.out.1 _ ho
            have HV : Hid ((F x.addr).getD (.agg #[.int .u32 0, .int .u32 0, .slice none 0 0, .slice none 0 0, .slice none 0 0]) = .agg #[.int .u32 0, .int .u32 0, .slice none 0 0, .slice none 0 0, .slice none 0 0]) := hid (by rw [hf]; rfl)
            have HI : Hid ((F x.addr).isSome = false) := hid (by rw [hf]; rfl)
            have HO := hid ho
            clear hf ho
            obtain ⟨W2, hW2⟩ : ∃ W2, W1.alloc (.cells #[.int .u32 0, .int .u32 0, .slice none 0 0, .slice none 0 0, .slice none 0 0] 55) = W2 := ⟨_, rfl⟩
            have hE2 : Ext W1 W2 := by rw [← hW2]; exact (Ext.refl W1).alloc _
            have p0 := hE2.cell p0
            have p1 := hE2.cell p1
            have p2 := hE2.cell p2
            have p3 := hE2.cell p3
            have p4 := hE2.cell p4
            have hq0 : W2.setCell ⟨W1.heap.size, 0, none⟩ (.int .u32 0) = W2 := by rw [← hW2]; simp [go_sem]
            have ez0 : W2.cell? ⟨W1.heap.size, 0, none⟩ = some (.int .u32 0) := by rw [← hW2]; simp [go_sem]
            have hq1 : W2.setCell ⟨W1.heap.size, 1, none⟩ (.int .u32 0) = W2 := by rw [← hW2]; simp [go_sem]
            have ez1 : W2.cell? ⟨W1.heap.size, 1, none⟩ = some (.int .u32 0) := by rw [← hW2]; simp [go_sem]
            have hq2 : W2.setCell ⟨W1.heap.size, 2, none⟩ (.slice none 0 0) = W2 := by rw [← hW2]; simp [go_sem]
            have ez2 : W2.cell? ⟨W1.heap.size, 2, none⟩ = some (.slice none 0 0) := by rw [← hW2]; simp [go_sem]
            have hq3 : W2.setCell ⟨W1.heap.size, 3, none⟩ (.slice none 0 0) = W2 := by rw [← hW2]; simp [go_sem]
            have ez3 : W2.cell? ⟨W1.heap.size, 3, none⟩ = some (.slice none 0 0) := by rw [← hW2]; simp [go_sem]
            have hq4 : W2.setCell ⟨W1.heap.size, 4, none⟩ (.slice none 0 0) = W2 := by rw [← hW2]; simp [go_sem]
            have ez4 : W2.cell? ⟨W1.heap.size, 4, none⟩ = some (.slice none 0 0) := by rw [← hW2]; simp [go_sem]
            have ezf : ∀ j, W2.frozen? ⟨W1.heap.size, j, none⟩ = false := fun j => by rw [← hW2]; simp [go_sem]
            have HM2 := hid (HM1.out.ext hE2)
            have HE2 := hid (HE1.out.trans hE2)
            clear hE2
            go_wp2_with (first
              | (at_lookup; refine wpList_lookOk _ rfl (.tmp 39) (.tmp 41) 54 rfl 55 Tryz.underlying54 _ (zero_bas _) (u32K Tryz.underlying38) w2.heap.size q F rfl HM1.out x.addr rfl HXA.out _ HV.out false HI.out ?_)
              | (at_mapUpdate; refine wpList_put _ rfl (.tmp 47) (.tmp 49) (.tmp 50) 54 rfl 55 Tryz.underlying54 (u32K Tryz.underlying38) w2.heap.size q F rfl HM2.out (by unfold maxLen; omega) x.addr rfl HXA.out (.agg #[.int .u32 x.addr, .int .u32 x.end_, .slice A1 x.ins.length c1, .slice A3 x.succ.length c3, .slice A4 x.calls.length c4]) rfl ?_; intro w5 hm5 hg5; have HM5 := hid hm5; have HG5 := hid hg5; clear hm5 hg5)
              | fail)
            first
              | go_roundw
              | refine ⟨?rel, ?measure⟩
            case rel => exact ⟨t + 1, q + 1, _, by omega, by go_num, by omega, hid (HF.out.new HXX.out HO.out HSL.out.1 HSL.out.2.1 HSL.out.2.2), hid (HM5.out.same fun y => rfl), hid (grown17 (grown17 HG.out (HE2.out.grownBy _)) HG5.out)⟩
            case measure => simp [intOf]; omega
        · obtain rfl : t = n := by omega
          have hF := HF.out
          rw [List.take_of_length_le (by have := HLN.out; omega)] at hF
          have HF2 := hid hF
          have hV : ∃ V, V = wr := ⟨_, rfl⟩
          obtain ⟨V, rfl⟩ := hV
          clear hF HF
          obtain ⟨i0, hi, hz0, hz1, hz2⟩ := info_parts info_fn
          have HI := hid hi
          have HZ0 := hid hz0
          have HZ1 := hid hz1
          have HZ2 := hid hz2
          have HMV := hid HM.out
          have hln2 : b.length ≤ 500 := by have := HLN.out; omega
          have HLB := hid hln2
          have HB32 : Hid (∀ x ∈ b.map Bs.addr, x < 4294967296) := hid (fun x hx => by
            obtain ⟨s, hs, rfl⟩ := List.mem_map.1 hx
            obtain ⟨k, hk, rfl⟩ := List.getElem_of_mem hs
            obtain ⟨_, _, _, _, _, _, _, _, _, _, _, _, h, _⟩ := Sl.bs_at HB.out (List.getElem?_eq_getElem hk)
            exact h)
          have HFE := hid (HF2.out.ext HX.out)
          have HO2V := hid (HO2.out.ext (HXM2.out.grown HG.out (fun j hj => by cases hj; exact Nat.le_refl _)))
          have HXV := hid HX.out
          clear hi hz0 hz1 hz2 hln2 HM HG HX HM0 h1 ht hqt
          go_wp2
          go_loopw [15, 54] (fun v i wr => ∃ (k : Nat) (A' : Option Addr) (c' : Nat) (fs : List Fn18), k ≤ m ∧ i = .int .i64 k ∧ v = .slice A' fs.length c' ∧ Hid (fs.length = k) ∧ Hid (OwnS fnR wr V.heap.size 40 All (.slice A' fs.length c') fs) ∧ Hid (Ext V wr) ∧ Hid (FnsOf b (fnName l) (L.take k) fs) ∧ Hid ((L.take k).all (isB b) = true) ∧ Hid (∀ f ∈ fs, f.blocks.length ≤ b.length ∧ f.calls.length ≤ 1000000)) (fun _ i _ => m - (intOf i).toNat)
          case atStart => exact ⟨0, none, 0, [], by omega, rfl, rfl, hid rfl, hid OwnS.nil, hid (Ext.refl _), hid (by simpa using FnsOf.nil), hid (by simp), hid (fun f hf => by cases hf)⟩
          case round =>
            obtain ⟨k, A', c', fs, hk, rfl, rfl, HFL, HO, HX, HFS, HAL, HBD⟩ := hrel
            rw [HFL.out] at HO ⊢
            by_cases h1 : k < m
            · obtain ⟨a, ha⟩ : ∃ a, L[k]? = some a := ⟨_, List.getElem?_eq_getElem (by have := HM'.out; omega)⟩
              obtain ⟨ba, oa, rfl, ca, ha32⟩ := Sl.num_at (HO2V.out.ext HX.out) ha
              have HA := hid ha
              obtain ⟨o, ho⟩ : ∃ o, blkA b a = o := ⟨_, rfl⟩
              have HMW := hid (HMV.out.ext HX.out)
              clear ha
              cases o with
              | none =>
                have hf : F a = none := HFE.out.1 _ ho
                have HV : Hid ((F a).getD (.agg #[.int .u32 0, .int .u32 0, .slice none 0 0, .slice none 0 0, .slice none 0 0]) = .agg #[.int .u32 0, .int .u32 0, .slice none 0 0, .slice none 0 0, .slice none 0 0]) := hid (by rw [hf]; rfl)
                have HIS : Hid ((F a).isSome = false) := hid (by rw [hf]; rfl)
                have HR9 : Hid (er = 9) := hid (by
                  rw [← HER.out]
                  unfold findErr
                  rw [if_neg (by omega), if_neg (by have := HM'.out; omega), if_neg]
                  intro hall
                  have := List.all_eq_true.1 hall a (List.mem_of_getElem? HA.out)
                  unfold isB at this
                  rw [ho] at this
                  cases this)
                clear hf ho
                go_wp2_with (first
                  | (at_lookup; refine wpList_lookOk _ rfl (.tmp 59) (.tmp 60) 54 rfl 55 Tryz.underlying54 _ (zero_bas _) (u32K Tryz.underlying38) w2.heap.size q F rfl HMW.out a rfl ha32 _ HV.out false HIS.out ?_)
                  | fail)
                go_ret2
                rw [HR9.out]
                exact ⟨(HXV.out.trans HX.out).alloc _, none, 0, [], rfl, Sl.nil, fun _ => rfl, fun h => absurd h (by omega), fun f hf => by cases hf⟩
              | some s =>
                obtain ⟨v1, v2, v3, hf, g1, g2, g3⟩ := HFE.out.2 _ s ho
                obtain ⟨B1, d1, rfl, -⟩ := g1.form
                obtain ⟨B2, d2, rfl, -⟩ := g2.form
                obtain ⟨B3, d3, rfl, -⟩ := g3.form
                have HV : Hid ((F a).getD (.agg #[.int .u32 0, .int .u32 0, .slice none 0 0, .slice none 0 0, .slice none 0 0]) = .agg #[.int .u32 s.addr, .int .u32 s.end_, .slice B1 s.ins.length d1, .slice B2 s.succ.length d2, .slice B3 s.calls.length d3]) := hid (by rw [hf]; rfl)
                have HIS : Hid ((F a).isSome = true) := hid (by rw [hf]; rfl)
                have HISB := hid (isB_some ho)
                have HCO := hid (fun W (h : Ext V W) => fcollect_any b HBB.out HLB.out HB32.out V w2.heap.size q F HFE.out HMV.out W h a ha32)
                have HNA := hid (fun W (h : Ext w W) => fname_any W (HT.out.ext h) Y ny cy l (HY.out.ext h) a ha32)
                have HNS := hid (fnName_size HSZ.out a)
                have HX0 := hid (HX.out.alloc (.cells #[.int .u32 s.addr, .int .u32 s.end_, .slice B1 s.ins.length d1, .slice B2 s.succ.length d2, .slice B3 s.calls.length d3] 55))
                have HXR := hid ((Ext.refl wr).alloc (.cells #[.int .u32 s.addr, .int .u32 s.end_, .slice B1 s.ins.length d1, .slice B2 s.succ.length d2, .slice B3 s.calls.length d3] 55))
                obtain ⟨nm, hnm⟩ : ∃ nm, fnName l a = nm := ⟨_, rfl⟩
                rw [hnm] at HNA HNS
                have HNM := hid hnm
                clear hf ho g1 g2 g3 hnm
                go_wp2_with (first
                  | (at_lookup; refine wpList_lookOk _ rfl (.tmp 59) (.tmp 60) 54 rfl 55 Tryz.underlying54 _ (zero_bas _) (u32K Tryz.underlying38) w2.heap.size q F rfl HMW.out a rfl ha32 _ HV.out true HIS.out ?_)
                  | fail)
                refine (HCO.out _ HX0.out).mono ?_
                rintro e w5 ⟨hx5, A5, c5, A6, c6, f, rfl, hfn, hbl, hcl, hs5, hs6⟩
                have HX5 := hid (HX0.out.trans hx5)
                have HXR5 := hid (HXR.out.trans hx5)
                have HFN := hid hfn
                have HBL := hid (And.intro hbl hcl)
                have HS5 := hid hs5
                have HS6 := hid hs6
                have HZR : Hid (wr.heap.size < w5.heap.size) := hid (by have h1 := hx5.size; rw [World.size_alloc] at h1; omega)
                obtain ⟨fe, fnm, fb, fc, fl⟩ := f
                simp only [] at HS5 HS6 HBL ⊢
                obtain ⟨bl5, hbl5⟩ : ∃ bl5, fb.length = bl5 := ⟨_, rfl⟩
                obtain ⟨bl6, hbl6⟩ : ∃ bl6, fc.length = bl6 := ⟨_, rfl⟩
                rw [hbl5] at HS5 ⊢
                rw [hbl6] at HS6 ⊢
                have HB5 := hid hbl5
                have HB6 := hid hbl6
                obtain ⟨W6, hW6⟩ : ∃ W6, w5.alloc (.cells #[.int .u32 fe, .string fnm, .slice A5 bl5 c5, .slice A6 bl6 c6, .bool fl] 40) = W6 := ⟨_, rfl⟩
                have hE6 : Ext w5 W6 := by rw [← hW6]; exact (Ext.refl w5).alloc _
                have y0 : W6.cell? ⟨w5.heap.size, 0, none⟩ = some (.int .u32 fe) := by rw [← hW6]; simp [go_sem]
                have y1 : W6.cell? ⟨w5.heap.size, 1, none⟩ = some (.string fnm) := by rw [← hW6]; simp [go_sem]
                have y2 : W6.cell? ⟨w5.heap.size, 2, none⟩ = some (.slice A5 bl5 c5) := by rw [← hW6]; simp [go_sem]
                have y3 : W6.cell? ⟨w5.heap.size, 3, none⟩ = some (.slice A6 bl6 c6) := by rw [← hW6]; simp [go_sem]
                have y4 : W6.cell? ⟨w5.heap.size, 4, none⟩ = some (.bool fl) := by rw [← hW6]; simp [go_sem]
                have yf : ∀ j, W6.frozen? ⟨w5.heap.size, j, none⟩ = false := fun j => by rw [← hW6]; simp [go_sem]
                have HZ6 : Hid (W6.heap.size = w5.heap.size + 1) := hid (by rw [← hW6]; simp)
                have HE6 := hid hE6
                clear hx5 hfn hbl hcl hs5 hs6 hE6 hbl5 hbl6
                go_wp2_with fail
                refine (HNA.out W6 ((HXV.out.trans HX5.out).trans HE6.out)).mono ?_
                rintro e w7 ⟨rfl, hx7⟩
                have HX7 := hid (HE6.out.trans hx7)
                have y0 := hx7.cell y0
                have y1 := hx7.cell y1
                have y2 := hx7.cell y2
                have y3 := hx7.cell y3
                have y4 := hx7.cell y4
                have yf : ∀ j, w7.frozen? ⟨w5.heap.size, j, none⟩ = false := fun j => (hx7.frozen (p := ⟨w5.heap.size, j, none⟩) (show w5.heap.size < W6.heap.size by have := HZ6.out; omega)).trans (yf j)
                obtain ⟨W8, hW8⟩ : ∃ W8, w7.setCell ⟨w5.heap.size, 1, none⟩ (.string nm) = W8 := ⟨_, rfl⟩
                have hE8 : Ext w5 W8 := by rw [← hW8]; exact HX7.out.setCell (p := ⟨w5.heap.size, 1, none⟩) (Nat.le_refl _) _
                have HX8 := hid (HX5.out.trans hE8)
                have HO8 := hid (HO.out.ext (HXR5.out.trans hE8))
                have HOB := hid (fun g hg => (HO.out.block g hg).2)
                have HS58 := hid ((HS5.out.ext hE8).mono (S' := fun d => All d ∧ some d ≠ (Value.slice A' k c').ownBlock) fun d hd _ => ⟨trivial, fun e => by have := HOB.out d e.symm; have := HXR.out.size; omega⟩)
                have HS68 := hid ((HS6.out.ext hE8).mono (S' := fun d => All d ∧ some d ≠ (Value.slice A' k c').ownBlock) fun d hd _ => ⟨trivial, fun e => by have := HOB.out d e.symm; have := HXR.out.size; omega⟩)
                have hfe : fe = a := HFN.out.entry
                have hfe32 : fe < 4294967296 := by omega
                have HFE9 := hid hfe
                clear hx7 hE8 hfe hW6
                go_upto_region 24 with fail
                have z0 : W8.cell? ⟨w5.heap.size, 0, none⟩ = some (.int .u32 fe) := by rw [← hW8]; simp [World.cell?_setCell_other, y0]
                have z1 : W8.cell? ⟨w5.heap.size, 1, none⟩ = some (.string nm) := by rw [← hW8]; exact World.cell?_setCell_same _ _ _ y1
                have z2 : W8.cell? ⟨w5.heap.size, 2, none⟩ = some (.slice A5 bl5 c5) := by rw [← hW8]; simp [World.cell?_setCell_other, y2]
                have z3 : W8.cell? ⟨w5.heap.size, 3, none⟩ = some (.slice A6 bl6 c6) := by rw [← hW8]; simp [World.cell?_setCell_other, y3]
                have z4 : W8.cell? ⟨w5.heap.size, 4, none⟩ = some (.bool fl) := by rw [← hW8]; simp [World.cell?_setCell_other, y4]
                clear y0 y1 y2 y3 y4 yf hW8
                have hfl := HFL.out
                have hrel : fnR.rel W8 (fun d => All d ∧ some d ≠ (Value.slice A' k c').ownBlock) [.int .u32 fe, .string nm, .slice A5 bl5 c5, .slice A6 bl6 c6, .bool fl] ⟨fe, nm, fb, fc, fl⟩ := ⟨_, _, rfl, HS58.out, HS68.out, hfe32, HNS.out⟩
                have HREL := hid hrel
                have HFL2 := hid hfl
                clear hrel hfl
                go_wp2_with (first
                  | (at_builtin; refine wpList_app1s rfl (.tmp 73) (.tmp 75) 28 rfl V.heap.size 40 i0 _ 5 80 Tryz.underlying28 HI.out HZ0.out HZ1.out HZ2.out rfl fnR rfl (.slice A' k c') fs rfl HO8.out W8.heap.size rfl ⟨fe, nm, fb, fc, fl⟩ rfl HREL.out (by rw [HFL2.out]; omega) (by rw [HFL2.out]; omega) (by exact HX8.out.size) ?_; intro A9 c9 w9 hown9 hg9; rw [HFL2.out] at hown9 ⊢; have HO9 := hid hown9; have HX9 := hid ((HX8.out.alloc _).grown hg9 (fun j hj => (HO8.out.block _ hj).1)); clear hown9 hg9)
                  | fail)
                first
                  | go_roundw
                  | refine ⟨?rel, ?measure⟩
                case rel =>
                  refine ⟨k + 1, A9, c9, fs ++ [⟨fe, nm, fb, fc, fl⟩], by omega, by go_num, by simp [HFL2.out], hid (by simp [HFL2.out]), hid (by simpa [HFL2.out] using HO9.out), HX9, hid ?_, hid ?_, hid ?_⟩
                  · rw [take_snoc' HA.out]
                    refine HFS.out.snoc ?_
                    rw [HNM.out]
                    exact HFN.out.rename
                  · rw [take_snoc' HA.out, List.all_append, HAL.out]
                    simpa using HISB.out
                  · intro g hg
                    rcases List.mem_append.1 hg with hg | hg
                    · exact HBD.out g hg
                    · rw [List.mem_singleton] at hg
                      subst hg
                      exact ⟨HBL.out.1, HBL.out.2⟩
                case measure => simp [intOf]; omega
            · obtain rfl : k = m := by omega
              have hall : L.take k = L := List.take_of_length_le (by have := HM'.out; omega)
              have HR0 : Hid (er = 0) := hid (by
                have h := HAL.out
                rw [hall] at h
                rw [← HER.out]
                unfold findErr
                rw [if_neg (by omega), if_neg (by have := HM'.out; omega), if_pos h])
              have hfs := HFS.out
              rw [hall] at hfs
              have HFS2 := hid hfs
              clear hfs hall
              go_wp2
              go_ret2
              rw [HR0.out]
              refine ⟨HXV.out.trans HX.out, A', c', fs, by rw [HFL.out]; rfl, ?_, fun h => absurd rfl h, fun _ => HFS2.out, HBD.out⟩
              rw [HFL.out]
              exact HO.out.sl
    · have HR6 : Hid (er = 6) := hid (by rw [← HER.out]; unfold findErr; rw [if_neg (by omega), if_pos (by have := HM'.out; omega)])
      go_wp2
      go_ret2
      rw [HR6.out]
      exact ⟨HX2.out, none, 0, [], rfl, Sl.nil, fun _ => rfl, fun h => absurd h (by omega), fun f hf => by cases hf⟩
  · have hz : ((ck : Int) != 0) = true := by simpa using h0
    have HF : Hid (er = ck) := hid (by rw [← HER.out]; unfold findErr; rw [if_pos h0])
    have HCZ := hid h0
    go_wp2
    go_ret2
    rw [HF.out]
    exact ⟨HX1.out, none, 0, [], rfl, Sl.nil, fun _ => rfl, fun h => absurd h HCZ.out, fun f hf => by cases hf⟩
end Go.Proofs.YtnlmhnbogleijaaGreatDoor

namespace Go.Proofs.YtnlmhnbogleijaaGreatDoor
open Go Go.RowKit Go.Deco
set_option linter.unusedSimpArgs false
set_option linter.unusedVariables false

theorem blkA_take {b : List Bs} {k a : Nat} {s : Bs} (h : blkA (b.take k) a = some s) : blkA b a = some s := by
  unfold blkA at *
  rw [← List.take_append_drop k b, List.find?_append, h]
  rfl
/-- What BlockOf returns. -/
def BlkPost (w : World) (b : List Bs) (a : Nat) (e : Ending) (w' : World) : Prop :=
  w = w' ∧ ((blkA b a = none ∧ e = .returned (.int .i64 (-1))) ∨ ∃ (k : Nat) (s : Bs), b[k]? = some s ∧ blkA b a = some s ∧ e = .returned (.int .i64 k))
set_option maxRecDepth 100000 in
set_option maxHeartbeats 2000000 in
theorem blockof_any (w : World) (A : Option Addr) (n c : Nat) (b : List Bs) (hl : Sl bsR w All (.slice A n c) b) (a : Nat) :
    Calls Tryz.prog 21 #[.slice A n c, .int .u32 a] w (BlkPost w b a) := by
  have hln := hl.len
  obtain ⟨hnc, hcm⟩ := hl.cap
  have HS := hid hl; clear hl
  have HL := hid hln; clear hln
  go_enter Tryz.func21, Tryz.ntmps21
  go_wp2
  go_loop [5] (fun i => ∃ k : Nat, k ≤ n ∧ i = .int .i64 k ∧ Hid (blkA (b.take k) a = none)) (fun i => n - (intOf i).toNat)
  case atStart => exact ⟨0, by omega, rfl, hid rfl⟩
  case round =>
    obtain ⟨k, hk, rfl, ha⟩ := hrel
    by_cases h1 : k < n
    · obtain ⟨f, hf⟩ : ∃ f, b[k]? = some f := ⟨_, List.getElem?_eq_getElem (by have := HL.out; omega)⟩
      obtain ⟨bb, off, A1, d1, A2, d2, A3, d3, rfl, -, -, -, -, -, c0, c1, c2, c3, c4⟩ := Sl.bs_at HS.out hf
      have HK := hid hf; clear hf
      obtain ⟨x, hx⟩ : ∃ x, f.addr = x := ⟨_, rfl⟩
      rw [hx] at c0
      have HX := hid hx; clear hx
      by_cases h2 : x = a
      · subst h2
        have h3 : ((x : Int) == (x : Int)) = true := by simp
        go_wp2
        go_ret
        refine ⟨rfl, .inr ⟨k, f, HK.out, blkA_take (k := k + 1) ?_, rfl⟩⟩
        rw [blkA_snoc HK.out, ha.out, if_pos HX.out]
        rfl
      · have h3 : ((x : Int) == (a : Int)) = false := by simp; omega
        go_wp2
        go_round
        case rel =>
          refine ⟨k + 1, by omega, by go_num, hid ?_⟩
          rw [blkA_snoc HK.out, ha.out, if_neg (by rw [HX.out]; exact h2)]
          rfl
        case measure => simp [intOf]; omega
    · go_wp2
      go_ret
      refine ⟨rfl, .inl ⟨?_, rfl⟩⟩
      have h := ha.out
      rw [List.take_of_length_le (by have := HL.out; omega)] at h
      exact h

def okB (s : Bs) : Prop := s.ins.length ≤ 20 ∧ s.succ.length ≤ 12 ∧ s.calls.length ≤ 20 ∧ ∀ c ∈ s.calls, c.length ≤ 12
def FewBPost (w : World) (n : Nat) (b : List Bs) (e : Ending) (w' : World) : Prop := (∃ r, e = .returned (.bool r) ∧ (r = true → n ≤ 20 ∧ ∀ s ∈ b, okB s)) ∧ w = w'
set_option maxRecDepth 100000 in
set_option maxHeartbeats 4000000 in
theorem fewb_any (w : World) (A : Option Addr) (n c : Nat) (b : List Bs) (hl : Sl bsR w All (.slice A n c) b) :
    Calls Tryz.prog 4 #[.slice A n c] w (FewBPost w n b) := by
  have hln := hl.len
  obtain ⟨hnc, hcm⟩ := hl.cap
  have HS := hid hl; clear hl
  have HL := hid hln; clear hln
  go_enter Tryz.func4, Tryz.ntmps4
  go_wp2
  go_loop [3] (fun i => ∃ k : Nat, k ≤ n ∧ i = .int .i64 k ∧ Hid (∀ s ∈ b.take k, okB s)) (fun i => n - (intOf i).toNat)
  case atStart => exact ⟨0, by omega, rfl, hid (fun s hs => by simp at hs)⟩
  case round =>
    obtain ⟨k, hk, rfl, ha⟩ := hrel
    by_cases h1 : k < n
    · by_cases h2 : k < 30
      · obtain ⟨f, hf⟩ : ∃ f, b[k]? = some f := ⟨_, List.getElem?_eq_getElem (by have := HL.out; omega)⟩
        obtain ⟨bb, off, A1, d1, A2, d2, A3, d3, rfl, hs1, hs2, hs3, -, -, c0, c1, c2, c3, c4⟩ := Sl.bs_at HS.out hf
        obtain ⟨hc1, hc1m⟩ := hs1.cap
        obtain ⟨hc2, hc2m⟩ := hs2.cap
        obtain ⟨hc3, hc3m⟩ := hs3.cap
        have HF := hid hf
        have H3 := hid hs3
        clear hs1 hs2 hs3 hf
        obtain ⟨ni, hni⟩ : ∃ ni, f.ins.length = ni := ⟨_, rfl⟩
        obtain ⟨ns, hns⟩ : ∃ ns, f.succ.length = ns := ⟨_, rfl⟩
        obtain ⟨nq, hnq⟩ : ∃ nq, f.calls.length = nq := ⟨_, rfl⟩
        rw [hni] at c2 hc1
        rw [hns] at c3 hc2
        rw [hnq] at c4 hc3 H3
        have HNI := hid hni; clear hni
        have HNS := hid hns; clear hns
        have HNQ := hid hnq; clear hnq
        by_cases h3 : 20 < ni
        · go_wp2
          go_ret
          exact ⟨⟨_, rfl, by simp⟩, rfl⟩
        · by_cases h4 : 12 < ns
          · go_wp2
            go_ret
            exact ⟨⟨_, rfl, by simp⟩, rfl⟩
          · by_cases h5 : 20 < nq
            · go_wp2
              go_ret
              exact ⟨⟨_, rfl, by simp⟩, rfl⟩
            · go_wp2
              go_loop [4] (fun i => ∃ j : Nat, j ≤ nq ∧ i = .int .i64 j ∧ Hid (∀ s ∈ f.calls.take j, s.length ≤ 12)) (fun i => nq - (intOf i).toNat)
              case atStart => exact ⟨0, by omega, rfl, hid (fun s hs => by simp at hs)⟩
              case round =>
                obtain ⟨j, hj, rfl, hja⟩ := hrel
                by_cases h6 : j < nq
                · obtain ⟨g, hg⟩ : ∃ g, f.calls[j]? = some g := ⟨_, List.getElem?_eq_getElem (by have := HNQ.out; omega)⟩
                  obtain ⟨b2, off2, A5, d5, rfl, c5, hs5⟩ := Sl_ss_at H3.out hg
                  obtain ⟨hc5, hc5m⟩ := hs5.cap
                  have HG := hid hg
                  clear hs5 hg
                  obtain ⟨ng, hng⟩ : ∃ ng, g.length = ng := ⟨_, rfl⟩
                  rw [hng] at c5 hc5
                  have HNG := hid hng; clear hng
                  by_cases h7 : 12 < ng
                  · go_wp2
                    go_ret
                    exact ⟨⟨_, rfl, by simp⟩, rfl⟩
                  · go_wp2
                    go_round
                    case rel =>
                      refine ⟨j + 1, by omega, by go_num, hid fun s hs => ?_⟩
                      rw [take_snoc' HG.out, List.mem_append] at hs
                      rcases hs with hs | hs
                      · exact hja.out s hs
                      · rw [List.mem_singleton] at hs
                        subst hs
                        have := HNG.out
                        omega
                    case measure => simp [intOf]; omega
                · obtain rfl : j = nq := by omega
                  go_wp2
                  first
                    | go_round
                    | refine ⟨?rel, ?measure⟩
                  case rel =>
                    refine ⟨k + 1, by omega, by go_num, hid fun s hs => ?_⟩
                    rw [take_snoc' HF.out, List.mem_append] at hs
                    rcases hs with hs | hs
                    · exact ha.out s hs
                    · rw [List.mem_singleton] at hs
                      subst hs
                      have h := hja.out
                      rw [List.take_of_length_le (by have := HNQ.out; omega)] at h
                      have := HNI.out
                      have := HNS.out
                      have := HNQ.out
                      exact ⟨by omega, by omega, by omega, h⟩
                  case measure => simp [intOf]; omega
      · go_wp2
        go_ret
        exact ⟨⟨_, rfl, fun h => by simp at h; omega⟩, rfl⟩
    · obtain rfl : k = n := by omega
      go_wp2
      all_goals
        go_ret
        refine ⟨⟨_, rfl, fun h => ⟨by simp at h; omega, ?_⟩⟩, rfl⟩
        have h := ha.out
        rw [List.take_of_length_le (by have := HL.out; omega)] at h
        exact h

def FewSPost (w : World) (n : Nat) (l : List Sy) (e : Ending) (w' : World) : Prop := (∃ r, e = .returned (.bool r) ∧ (r = true → n ≤ 20 ∧ ∀ s ∈ l, s.name.size ≤ 60)) ∧ w = w'
def CalledPost (w : World) (b : List Bs) (e : Ending) (w' : World) : Prop := e = .returned (.bool (b.any fun s => !s.calls.isEmpty)) ∧ w = w'
def BssPost (w : World) (l : List Bs) (e : Ending) (w' : World) : Prop := Ext w w' ∧ ∃ A c, e = .returned (.slice A l.length c) ∧ Sl bsR w' All (.slice A l.length c) l

set_option maxRecDepth 100000 in
set_option maxHeartbeats 2000000 in
theorem fews_any (w : World) (A : Option Addr) (n c : Nat) (l : List Sy) (hl : Sl symR w All (.slice A n c) l) :
    Calls Tryz.prog 5 #[.slice A n c] w (FewSPost w n l) := by
  have hln := hl.len
  obtain ⟨hnc, hcm⟩ := hl.cap
  have HS := hid hl; clear hl
  have HL := hid hln; clear hln
  go_enter Tryz.func5, Tryz.ntmps5
  go_wp2
  go_loop [3] (fun i => ∃ k : Nat, k ≤ n ∧ i = .int .i64 k ∧ Hid (∀ s ∈ l.take k, s.name.size ≤ 60)) (fun i => n - (intOf i).toNat)
  case atStart => exact ⟨0, by omega, rfl, hid (fun s hs => by simp at hs)⟩
  case round =>
    obtain ⟨k, hk, rfl, ha⟩ := hrel
    by_cases h1 : k < n
    · by_cases h2 : k < 30
      · obtain ⟨f, hf⟩ : ∃ f, l[k]? = some f := ⟨_, List.getElem?_eq_getElem (by have := HL.out; omega)⟩
        obtain ⟨bb, off, rfl, c0, c1, c2, hsz⟩ := Sl.sym_at HS.out hf
        have HF := hid hf
        have hm : f.name.size ≤ maxLen := hsz.2.1
        unfold maxLen at hm
        clear hf hsz
        by_cases h3 : 60 < f.name.size
        · go_wp2
          go_ret
          exact ⟨⟨_, rfl, by simp⟩, rfl⟩
        · go_wp2
          go_round
          case rel =>
            refine ⟨k + 1, by omega, by go_num, hid fun s hs => ?_⟩
            rw [take_snoc' HF.out, List.mem_append] at hs
            rcases hs with hs | hs
            · exact ha.out s hs
            · rw [List.mem_singleton] at hs
              subst hs
              omega
          case measure => simp [intOf]; omega
      · go_wp2
        go_ret
        exact ⟨⟨_, rfl, fun h => by simp at h; omega⟩, rfl⟩
    · obtain rfl : k = n := by omega
      go_wp2
      all_goals
        go_ret
        refine ⟨⟨_, rfl, fun h => ⟨by simp at h; omega, ?_⟩⟩, rfl⟩
        have h := ha.out
        rw [List.take_of_length_le (by have := HL.out; omega)] at h
        exact h
set_option maxRecDepth 100000 in
set_option maxHeartbeats 4000000 in
theorem basics_any (w : World) (A : Option Addr) (n c : Nat) (l : List Bs) (hl : Sl bsR w All (.slice A n c) l) (hn : n ≤ 1000000) :
    Calls Tryz.prog 8 #[.slice A n c] w (BssPost w l) := by
  have hln := hl.len
  obtain ⟨hnc, hcm⟩ := hl.cap
  obtain ⟨i0, hi, hz0, hz1, hz2⟩ := info_parts info_bas2
  have HS := hid (hl.mono (S' := fun b => b < w.heap.size) fun b _ h => h.lt); clear hl
  have HLN := hid hln; clear hln
  have HI := hid hi; clear hi
  have HZ0 := hid hz0; clear hz0
  have HZ1 := hid hz1; clear hz1
  have HZ2 := hid hz2; clear hz2
  go_enter Tryz.func8, Tryz.ntmps8
  go_wp2
  go_loopw [3, 4] (fun v i wr => ∃ (k : Nat) (A' : Option Addr) (c' : Nat), k ≤ n ∧ i = .int .i64 k ∧ v = .slice A' k c' ∧ Hid (OwnS bsR wr w.heap.size 55 (fun b => b < w.heap.size) (.slice A' k c') (l.take k)) ∧ Hid (Ext w wr)) (fun _ i _ => n - (intOf i).toNat)
  case atStart => exact ⟨0, none, 0, by omega, rfl, rfl, hid (by simpa using OwnS.nil), hid (Ext.refl _)⟩
  case round =>
    obtain ⟨k, A', c', hk, rfl, rfl, hown, hx⟩ := hrel
    by_cases h1 : k < n
    · obtain ⟨x, hxx⟩ : ∃ x, l[k]? = some x := ⟨_, List.getElem?_eq_getElem (by have := HLN.out; omega)⟩
      obtain ⟨b, off, A1, d1, A2, d2, A3, d3, rfl, hs1, hs2, hs3, hl1, hl2, c0, c1, c2, c3, c4⟩ := Sl.bs_at (HS.out.ext hx.out) hxx
      have HXK := hid hxx; clear hxx
      have HS1 := hid hs1; clear hs1
      have HS2 := hid hs2; clear hs2
      have HS3 := hid hs3; clear hs3
      have HL1 := hid hl1; clear hl1
      have HL2 := hid hl2; clear hl2
      have HKL := hid (show (l.take k).length = k by rw [List.length_take]; have := HLN.out; omega)
      have HO0 := hid hown.out.dr
      have HX0 := hid hx.out.drew
      have HBL := hid (show b < w.heap.size from by
        obtain ⟨_, _, _, _, _, _, _, _, hA, _, _, _, _, _, d0, _⟩ := Sl.bs_at HS.out HXK.out
        cases hA
        exact World.block_lt_of_cell? _ _ d0)
      have HREL : Hid (bsR.rel wr (fun q => (q < w.heap.size) ∧ some q ≠ (Value.slice A' k c').ownBlock) [.int .u32 x.addr, .int .u32 x.end_, .slice A1 x.ins.length d1, .slice A2 x.succ.length d2, .slice A3 x.calls.length d3] x) := hid (by
        have key : ∀ q, q < w.heap.size → (q < w.heap.size) ∧ some q ≠ (Value.slice A' k c').ownBlock := fun q hq => ⟨hq, fun e => by have := HO0.out.block q e.symm; omega⟩
        exact ⟨_, _, _, rfl, HS1.out.mono (fun q hq _ => key q hq), HS2.out.mono (fun q hq _ => key q hq), HS3.out.mono (fun q hq _ => key q hq), HL1.out, HL2.out⟩)
      go_wp2_with fail
      refine wp_region_held_drew (S := (fun w' => w'.cell? ⟨b, off + k * 5, none⟩ = some (.int .u32 x.addr) ∧ w'.cell? ⟨b, off + k * 5 + 1, none⟩ = some (.int .u32 x.end_) ∧ w'.cell? ⟨b, off + k * 5 + 2, none⟩ = some (.slice A1 x.ins.length d1) ∧ w'.cell? ⟨b, off + k * 5 + 3, none⟩ = some (.slice A2 x.succ.length d2) ∧ w'.cell? ⟨b, off + k * 5 + 4, none⟩ = some (.slice A3 x.calls.length d3))) (by kernel_rfl) ⟨c0, c1, c2, c3, c4⟩ (fun hSR0 => ?_)
      refine wpAnyH_takeL (i := 0) (v := ?Rv0) rfl (by kernel_rfl) (by kernel_rfl) (by kernel_rfl) (fun _ _ _ h => h) (Or.inl ⟨by rfl, ?Ry0⟩) (by assumption) ?Rr0
      case Ry0 => first | (intro w hSw; (try dsimp only at hSw); go_simp; done) | (intro w hSw; (try dsimp only at hSw); go_simp; with_reducible rfl)
      case' Rr0 => try simp only [Act.put, List.setIfInBounds_toArray, List.set_cons_zero, List.set_cons_succ]
      refine wpAnyH_takeL (i := 1) (v := ?Rv1) rfl (by kernel_rfl) (by kernel_rfl) (by kernel_rfl) (fun _ _ _ h => h) (Or.inl ⟨by rfl, ?Ry1⟩) (by assumption) ?Rr1
      case Ry1 => first | (intro w hSw; (try dsimp only at hSw); go_simp; done) | (intro w hSw; (try dsimp only at hSw); go_simp; with_reducible rfl)
      case' Rr1 => try simp only [Act.put, List.setIfInBounds_toArray, List.set_cons_zero, List.set_cons_succ]
      refine wpAnyH_takeL (i := 2) (v := ?Rv2) rfl (by kernel_rfl) (by kernel_rfl) (by kernel_rfl) (fun _ _ _ h => h) (Or.inl ⟨by rfl, ?Ry2⟩) (by assumption) ?Rr2
      case Ry2 => first | (intro w hSw; (try dsimp only at hSw); go_simp; done) | (intro w hSw; (try dsimp only at hSw); go_simp; with_reducible rfl)
      case' Rr2 => try simp only [Act.put, List.setIfInBounds_toArray, List.set_cons_zero, List.set_cons_succ]
      refine wpAnyH_takeL (i := 3) (v := ?Rv3) rfl (by kernel_rfl) (by kernel_rfl) (by kernel_rfl) (fun _ _ _ h => h) (Or.inl ⟨by rfl, ?Ry3⟩) (by assumption) ?Rr3
      case Ry3 => first | (intro w hSw; (try dsimp only at hSw); go_simp; done) | (intro w hSw; (try dsimp only at hSw); go_simp; with_reducible rfl)
      case' Rr3 => try simp only [Act.put, List.setIfInBounds_toArray, List.set_cons_zero, List.set_cons_succ]
      refine wpAnyH_takeL (i := 4) (v := ?Rv4) rfl (by kernel_rfl) (by kernel_rfl) (by kernel_rfl) (fun _ _ _ h => h) (Or.inl ⟨by rfl, ?Ry4⟩) (by assumption) ?Rr4
      case Ry4 => first | (intro w hSw; (try dsimp only at hSw); go_simp; done) | (intro w hSw; (try dsimp only at hSw); go_simp; with_reducible rfl)
      case' Rr4 => try simp only [Act.put, List.setIfInBounds_toArray, List.set_cons_zero, List.set_cons_succ]
      refine wpAnyH_takeL (i := 5) (v := ?Rv5) rfl (by kernel_rfl) (by kernel_rfl) (by kernel_rfl) (fun _ _ _ h => h) (Or.inl ⟨by rfl, ?Ry5⟩) (by assumption) ?Rr5
      case Ry5 => first | (intro w hSw; (try dsimp only at hSw); go_simp; done) | (intro w hSw; (try dsimp only at hSw); go_simp; with_reducible rfl)
      case' Rr5 => try simp only [Act.put, List.setIfInBounds_toArray, List.set_cons_zero, List.set_cons_succ]
      refine wpAnyH_takeL (i := 6) (v := ?Rv6) rfl (by kernel_rfl) (by kernel_rfl) (by kernel_rfl) (fun _ _ _ h => h) (Or.inl ⟨by rfl, ?Ry6⟩) (by assumption) ?Rr6
      case Ry6 => first | (intro w hSw; (try dsimp only at hSw); go_simp; done) | (intro w hSw; (try dsimp only at hSw); go_simp; with_reducible rfl)
      case' Rr6 => try simp only [Act.put, List.setIfInBounds_toArray, List.set_cons_zero, List.set_cons_succ]
      refine wpAnyH_takeL (i := 7) (v := ?Rv7) rfl (by kernel_rfl) (by kernel_rfl) (by kernel_rfl) (fun _ _ _ h => h) (Or.inl ⟨by rfl, ?Ry7⟩) (by assumption) ?Rr7
      case Ry7 => first | (intro w hSw; (try dsimp only at hSw); go_simp; done) | (intro w hSw; (try dsimp only at hSw); go_simp; with_reducible rfl)
      case' Rr7 => try simp only [Act.put, List.setIfInBounds_toArray, List.set_cons_zero, List.set_cons_succ]
      refine wpAnyH_takeL (i := 8) (v := ?Rv8) rfl (by kernel_rfl) (by kernel_rfl) (by kernel_rfl) (fun _ _ _ h => h) (Or.inl ⟨by rfl, ?Ry8⟩) (by assumption) ?Rr8
      case Ry8 => first | (intro w hSw; (try dsimp only at hSw); go_simp; done) | (intro w hSw; (try dsimp only at hSw); go_simp; with_reducible rfl)
      case' Rr8 => try simp only [Act.put, List.setIfInBounds_toArray, List.set_cons_zero, List.set_cons_succ]
      refine wpAnyH_takeL (i := 9) (v := ?Rv9) rfl (by kernel_rfl) (by kernel_rfl) (by kernel_rfl) (fun _ _ _ h => h) (Or.inl ⟨by rfl, ?Ry9⟩) (by assumption) ?Rr9
      case Ry9 => first | (intro w hSw; (try dsimp only at hSw); go_simp; done) | (intro w hSw; (try dsimp only at hSw); go_simp; with_reducible rfl)
      case' Rr9 => try simp only [Act.put, List.setIfInBounds_toArray, List.set_cons_zero, List.set_cons_succ]
      refine wpAnyH_takeL (i := 10) (v := ?Rv10) rfl (by kernel_rfl) (by kernel_rfl) (by kernel_rfl) (fun _ _ _ h => h) (Or.inl ⟨by rfl, ?Ry10⟩) (by assumption) ?Rr10
      case Ry10 => first | (intro w hSw; (try dsimp only at hSw); go_simp; done) | (intro w hSw; (try dsimp only at hSw); go_simp; with_reducible rfl)
      case' Rr10 => try simp only [Act.put, List.setIfInBounds_toArray, List.set_cons_zero, List.set_cons_succ]
      refine wpAnyH_takeL (i := 11) (v := ?Rv11) rfl (by kernel_rfl) (by kernel_rfl) (by kernel_rfl) (fun _ _ _ h => h) (Or.inl ⟨by rfl, ?Ry11⟩) (by assumption) ?Rr11
      case Ry11 => first | (intro w hSw; (try dsimp only at hSw); go_simp; done) | (intro w hSw; (try dsimp only at hSw); go_simp; with_reducible rfl)
      case' Rr11 => try simp only [Act.put, List.setIfInBounds_toArray, List.set_cons_zero, List.set_cons_succ]
      refine wpAnyH_takeL (i := 12) (v := ?Rv12) rfl (by kernel_rfl) (by kernel_rfl) (by kernel_rfl) (fun _ _ _ h => h) (Or.inl ⟨by rfl, ?Ry12⟩) (by assumption) ?Rr12
      case Ry12 => first | (intro w hSw; (try dsimp only at hSw); go_simp; done) | (intro w hSw; (try dsimp only at hSw); go_simp; with_reducible rfl)
      case' Rr12 => try simp only [Act.put, List.setIfInBounds_toArray, List.set_cons_zero, List.set_cons_succ]
      refine wpAnyH_takeL (i := 13) (v := ?Rv13) rfl (by kernel_rfl) (by kernel_rfl) (by kernel_rfl) (fun _ _ _ h => h) (Or.inl ⟨by rfl, ?Ry13⟩) (by assumption) ?Rr13
      case Ry13 => first | (intro w hSw; (try dsimp only at hSw); go_simp; done) | (intro w hSw; (try dsimp only at hSw); go_simp; with_reducible rfl)
      case' Rr13 => try simp only [Act.put, List.setIfInBounds_toArray, List.set_cons_zero, List.set_cons_succ]
      refine wpAnyH_takeL (i := 14) (v := ?Rv14) rfl (by kernel_rfl) (by kernel_rfl) (by kernel_rfl) (fun _ _ _ h => h) (Or.inl ⟨by rfl, ?Ry14⟩) (by assumption) ?Rr14
      case Ry14 => first | (intro w hSw; (try dsimp only at hSw); go_simp; done) | (intro w hSw; (try dsimp only at hSw); go_simp; with_reducible rfl)
      case' Rr14 => try simp only [Act.put, List.setIfInBounds_toArray, List.set_cons_zero, List.set_cons_succ]
      refine wpAnyH_takeL (i := 15) (v := ?Rv15) rfl (by kernel_rfl) (by kernel_rfl) (by kernel_rfl) (fun _ _ _ h => h) (Or.inl ⟨by rfl, ?Ry15⟩) (by assumption) ?Rr15
      case Ry15 => first | (intro w hSw; (try dsimp only at hSw); go_simp; done) | (intro w hSw; (try dsimp only at hSw); go_simp; with_reducible rfl)
      case' Rr15 => try simp only [Act.put, List.setIfInBounds_toArray, List.set_cons_zero, List.set_cons_succ]
      refine wpAnyH_takeL (i := 16) (v := ?Rv16) rfl (by kernel_rfl) (by kernel_rfl) (by kernel_rfl) (fun _ _ _ h => h) (Or.inl ⟨by rfl, ?Ry16⟩) (by assumption) ?Rr16
      case Ry16 => first | (intro w hSw; (try dsimp only at hSw); go_simp; done) | (intro w hSw; (try dsimp only at hSw); go_simp; with_reducible rfl)
      case' Rr16 => try simp only [Act.put, List.setIfInBounds_toArray, List.set_cons_zero, List.set_cons_succ]
      refine wpAnyH_takeL (i := 17) (v := ?Rv17) rfl (by kernel_rfl) (by kernel_rfl) (by kernel_rfl) (fun _ _ _ h => h) (Or.inl ⟨by rfl, ?Ry17⟩) (by assumption) ?Rr17
      case Ry17 => first | (intro w hSw; (try dsimp only at hSw); go_simp; done) | (intro w hSw; (try dsimp only at hSw); go_simp; with_reducible rfl)
      case' Rr17 => try simp only [Act.put, List.setIfInBounds_toArray, List.set_cons_zero, List.set_cons_succ]
      refine wpAnyH_takeL (i := 18) (v := ?Rv18) rfl (by kernel_rfl) (by kernel_rfl) (by kernel_rfl) (fun _ _ _ h => h) (Or.inl ⟨by rfl, ?Ry18⟩) (by assumption) ?Rr18
      case Ry18 => first | (intro w hSw; (try dsimp only at hSw); go_simp; done) | (intro w hSw; (try dsimp only at hSw); go_simp; with_reducible rfl)
      case' Rr18 => try simp only [Act.put, List.setIfInBounds_toArray, List.set_cons_zero, List.set_cons_succ]
      refine wpAnyH_takeL (i := 19) (v := ?Rv19) rfl (by kernel_rfl) (by kernel_rfl) (by kernel_rfl) (fun _ _ _ h => h) (Or.inl ⟨by rfl, ?Ry19⟩) (by assumption) ?Rr19
      case Ry19 => first | (intro w hSw; (try dsimp only at hSw); go_simp; done) | (intro w hSw; (try dsimp only at hSw); go_simp; with_reducible rfl)
      case' Rr19 => try simp only [Act.put, List.setIfInBounds_toArray, List.set_cons_zero, List.set_cons_succ]
      refine wpAnyH_takeL (i := 20) (v := ?Rv20) rfl (by kernel_rfl) (by kernel_rfl) (by kernel_rfl) (fun _ _ _ h => h) (Or.inl ⟨by rfl, ?Ry20⟩) (by assumption) ?Rr20
      case Ry20 => first | (intro w hSw; (try dsimp only at hSw); go_simp; done) | (intro w hSw; (try dsimp only at hSw); go_simp; with_reducible rfl)
      case' Rr20 => try simp only [Act.put, List.setIfInBounds_toArray, List.set_cons_zero, List.set_cons_succ]
      refine wpAnyH_takeL (i := 21) (v := ?Rv21) rfl (by kernel_rfl) (by kernel_rfl) (by kernel_rfl) (fun _ _ _ h => h) (Or.inl ⟨by rfl, ?Ry21⟩) (by assumption) ?Rr21
      case Ry21 => first | (intro w hSw; (try dsimp only at hSw); go_simp; done) | (intro w hSw; (try dsimp only at hSw); go_simp; with_reducible rfl)
      case' Rr21 => try simp only [Act.put, List.setIfInBounds_toArray, List.set_cons_zero, List.set_cons_succ]
      refine wpAnyH_takeL (i := 22) (v := ?Rv22) rfl (by kernel_rfl) (by kernel_rfl) (by kernel_rfl) (fun _ _ _ h => h) (Or.inl ⟨by rfl, ?Ry22⟩) (by assumption) ?Rr22
      case Ry22 => first | (intro w hSw; (try dsimp only at hSw); go_simp; done) | (intro w hSw; (try dsimp only at hSw); go_simp; with_reducible rfl)
      case' Rr22 => try simp only [Act.put, List.setIfInBounds_toArray, List.set_cons_zero, List.set_cons_succ]
      refine wpAnyH_takeL (i := 23) (v := ?Rv23) rfl (by kernel_rfl) (by kernel_rfl) (by kernel_rfl) (fun _ _ _ h => h) (Or.inl ⟨by rfl, ?Ry23⟩) (by assumption) ?Rr23
      case Ry23 => first | (intro w hSw; (try dsimp only at hSw); go_simp; done) | (intro w hSw; (try dsimp only at hSw); go_simp; with_reducible rfl)
      case' Rr23 => try simp only [Act.put, List.setIfInBounds_toArray, List.set_cons_zero, List.set_cons_succ]
      refine wpAnyH_takeL (i := 24) (v := ?Rv24) rfl (by kernel_rfl) (by kernel_rfl) (by kernel_rfl) (fun _ _ _ h => h) (Or.inl ⟨by rfl, ?Ry24⟩) (by assumption) ?Rr24
      case Ry24 => first | (intro w hSw; (try dsimp only at hSw); go_simp; done) | (intro w hSw; (try dsimp only at hSw); go_simp; with_reducible rfl)
      case' Rr24 => try simp only [Act.put, List.setIfInBounds_toArray, List.set_cons_zero, List.set_cons_succ]
      refine wpAnyH_takeL (i := 25) (v := ?Rv25) rfl (by kernel_rfl) (by kernel_rfl) (by kernel_rfl) (fun _ _ _ h => h) (Or.inl ⟨by rfl, ?Ry25⟩) (by assumption) ?Rr25
      case Ry25 => first | (intro w hSw; (try dsimp only at hSw); go_simp; done) | (intro w hSw; (try dsimp only at hSw); go_simp; with_reducible rfl)
      case' Rr25 => try simp only [Act.put, List.setIfInBounds_toArray, List.set_cons_zero, List.set_cons_succ]
      refine wpAnyH_takeL (i := 26) (v := ?Rv26) rfl (by kernel_rfl) (by kernel_rfl) (by kernel_rfl) (fun _ _ _ h => h) (Or.inl ⟨by rfl, ?Ry26⟩) (by assumption) ?Rr26
      case Ry26 => first | (intro w hSw; (try dsimp only at hSw); go_simp; done) | (intro w hSw; (try dsimp only at hSw); go_simp; with_reducible rfl)
      case' Rr26 => try simp only [Act.put, List.setIfInBounds_toArray, List.set_cons_zero, List.set_cons_succ]
      refine wpAnyH_ready (rs := [27]) (by kernel_rfl) (by simp) ?_
      refine AllReadyH.consL rfl (fun K hK => ?_) AllReadyH.nil
      go_simp
      refine hK.out _ _ ⟨((Ext.refl wr).drew.alloc _).cell c0, ((Ext.refl wr).drew.alloc _).cell c1, ((Ext.refl wr).drew.alloc _).cell c2, ((Ext.refl wr).drew.alloc _).cell c3, ((Ext.refl wr).drew.alloc _).cell c4⟩ (fun hSR1 => ?_)
      clear hK K
      try simp only [Act.put, List.setIfInBounds_toArray, List.set_cons_zero, List.set_cons_succ]
      refine wpAnyH_ready (rs := [28]) (by kernel_rfl) (by simp) ?_
      refine AllReadyH.consL rfl (fun K hK => ?_) AllReadyH.nil
      refine step_app1 rfl (.tmp 11) (.tmp 38) 32 rfl w.heap.size 55 i0 _ 5 80 Tryz.underlying32 HI.out HZ0.out HZ1.out HZ2.out rfl bsR rfl (.slice A' k c') (l.take k) rfl HO0.out x rfl (bsR.ext (Ext.refl wr).drew HREL.out) (by have := HKL.out; omega) (by have := HKL.out; omega) (by exact HX0.out.size) ?_
      intro A2' c2' w3 hown3 hg3
      rw [HKL.out] at hown3
      have HO3 := hid hown3
      have HX3 := hid ((HX0.out.alloc _).grown hg3 (fun k hk => (HO0.out.block _ hk).1))
      have HS3' := hid (hg3.block b (by have h : b < wr.heap.size := World.block_lt_of_cell? _ _ c0; simp; omega) (fun e => by have := HO0.out.block b e.symm; have := HBL.out; omega))
      clear hown3 hg3
      rw [HKL.out]
      refine hK.out _ _ ⟨(World.cell?_of_block HS3'.out).trans (((Ext.refl wr).drew.alloc _).cell c0), (World.cell?_of_block HS3'.out).trans (((Ext.refl wr).drew.alloc _).cell c1), (World.cell?_of_block HS3'.out).trans (((Ext.refl wr).drew.alloc _).cell c2), (World.cell?_of_block HS3'.out).trans (((Ext.refl wr).drew.alloc _).cell c3), (World.cell?_of_block HS3'.out).trans (((Ext.refl wr).drew.alloc _).cell c4)⟩ (fun hSR2 => ?_)
      clear hK K
      try simp only [Act.put, List.setIfInBounds_toArray, List.set_cons_zero, List.set_cons_succ]
      refine wpAnyH_takeL (i := 29) (v := ?Rv29) rfl (by kernel_rfl) (by kernel_rfl) (by kernel_rfl) (fun _ _ _ h => h) (Or.inl ⟨by rfl, ?Ry29⟩) (by assumption) ?Rr29
      case Ry29 => first | (intro w hSw; (try dsimp only at hSw); go_simp; done) | (intro w hSw; (try dsimp only at hSw); go_simp; with_reducible rfl)
      case' Rr29 => try simp only [Act.put, List.setIfInBounds_toArray, List.set_cons_zero, List.set_cons_succ]
      refine wpAnyH_done (by kernel_rfl) ?_ _
      go_wp2
      first
        | go_roundw
        | refine ⟨?rel, ?measure⟩
      case rel => exact ⟨k + 1, A2', c2', by omega, by go_num, rfl, hid (by rw [take_snoc' HXK.out]; exact HO3.out), HX3⟩
      case measure => simp [intOf]; omega
    · obtain rfl : n = k := by omega
      go_wp2
      go_ret
      have e1 : l.take n = l := List.take_of_length_le (by have := HLN.out; omega)
      have ho := hown.out
      rw [e1, HLN.out] at ho
      exact ⟨hx.out, A', c', by rw [← HLN.out]; rfl, ho.sl⟩
theorem flat_len {α : Type} {m : Nat} : ∀ {l : List (List α)}, (∀ x ∈ l, x.length ≤ m) → l.flatten.length ≤ m * l.length
  | [], _ => by simp
  | x :: t, h => by
    rw [List.flatten_cons, List.length_append, List.length_cons]
    have h1 := h x (List.mem_cons_self ..)
    have h2 := flat_len (l := t) fun y hy => h y (List.mem_cons_of_mem _ hy)
    rw [Nat.mul_add]
    omega
theorem okB_sizes {b : List Bs} (h : ∀ s ∈ b, okB s) : ∀ s ∈ b, s.ins.length ≤ 100 ∧ s.calls.flatten.length ≤ 900 := by
  intro s hs
  obtain ⟨h1, h2, h3, h4⟩ := h s hs
  have := flat_len h4
  exact ⟨by omega, by omega⟩
theorem blkof_none (w : World) (A : Option Addr) (n c : Nat) (b : List Bs) (hl : Sl bsR w All (.slice A n c) b) (a : Nat) (h : blkA b a = none) :
    Calls Tryz.prog 21 #[.slice A n c, .int .u32 a] w fun e w' => w = w' ∧ e = .returned (.int .i64 (-1)) :=
  (blockof_any w A n c b hl a).mono fun e w' hp => by
    obtain ⟨h1, ⟨_, h2⟩ | ⟨k, s, _, h2, _⟩⟩ := hp
    · exact ⟨h1, h2⟩
    · rw [h] at h2; cases h2
theorem blkof_some (w : World) (A : Option Addr) (n c : Nat) (b : List Bs) (hl : Sl bsR w All (.slice A n c) b) (a : Nat) (s : Bs) (h : blkA b a = some s) :
    Calls Tryz.prog 21 #[.slice A n c, .int .u32 a] w fun e w' => w = w' ∧ ∃ k : Nat, b[k]? = some s ∧ e = .returned (.int .i64 k) :=
  (blockof_any w A n c b hl a).mono fun e w' hp => by
    obtain ⟨h1, ⟨h2, _⟩ | ⟨k, t, h3, h2, h4⟩⟩ := hp
    · rw [h] at h2; cases h2
    · rw [h] at h2
      cases h2
      exact ⟨h1, k, h3, h4⟩
end Go.Proofs.YtnlmhnbogleijaaGreatDoor
