/- Shared: the program's, the reference's; the statement FuncsShared. -/
import Derived.Test.YtnlmhnbogleijaaDoorFunEm
import Derived.Test.YtnlmhnbogleijaaDoorFunFm
namespace Go.Proofs.YtnlmhnbogleijaaDoor
open Go.RowKit Go.Deco
set_option linter.unusedSimpArgs false
set_option linter.unusedVariables false

/-! ### what both compute -/
def blkOf (l : List Fn18) (e : Nat) : List Nat := match fnd l e with | some f => f.blocks | none => []
def cntOf (F : List Fn18) (a : Nat) : Nat := (F.filter fun f => f.blocks.contains a).length
/-- An address in the functions of two entries. -/
def InTwo (l : List Fn18) (a : Nat) : Prop := ∃ e1 e2, e1 ∈ entriesOf l ∧ e2 ∈ entriesOf l ∧ e1 ≠ e2 ∧ a ∈ blkOf l e1 ∧ a ∈ blkOf l e2
theorem cnt_two (l : List Fn18) (a : Nat) : 1 < cntOf (firsts l) a ↔ InTwo l a := by
  have hmem : ∀ f, f ∈ (firsts l).filter (fun f => f.blocks.contains a) ↔ fnd l f.entry = some f ∧ a ∈ f.blocks := by
    intro f
    rw [List.mem_filter, firsts_mem, List.contains_iff_mem]
  have hnd : (((firsts l).filter (fun f => f.blocks.contains a)).map (·.entry)).Nodup := (firsts_nodup l).sublist (List.Sublist.map _ List.filter_sublist)
  have hlen : cntOf (firsts l) a = (((firsts l).filter (fun f => f.blocks.contains a)).map (·.entry)).length := by rw [List.length_map, cntOf]
  constructor
  · intro h
    rw [cntOf] at h
    have h0 : ((firsts l).filter (fun f => f.blocks.contains a))[0] ∈ (firsts l).filter (fun f => f.blocks.contains a) := List.getElem_mem _
    have h1 : ((firsts l).filter (fun f => f.blocks.contains a))[1] ∈ (firsts l).filter (fun f => f.blocks.contains a) := List.getElem_mem _
    have hne := (List.pairwise_iff_getElem.1 hnd) 0 1 (by rw [List.length_map]; omega) (by rw [List.length_map]; omega) (by omega)
    simp only [List.getElem_map] at hne
    obtain ⟨g0, b0⟩ := (hmem _).1 h0
    obtain ⟨g1, b1⟩ := (hmem _).1 h1
    exact ⟨_, _, entries_mem.2 (by rw [g0]; rfl), entries_mem.2 (by rw [g1]; rfl), hne, by rw [blkOf, g0]; exact b0, by rw [blkOf, g1]; exact b1⟩
  · rintro ⟨e1, e2, h1, h2, hne, b1, b2⟩
    obtain ⟨f1, g1⟩ := fnd_some (entries_mem.1 h1)
    obtain ⟨f2, g2⟩ := fnd_some (entries_mem.1 h2)
    have x1 := fnd_entry g1
    have x2 := fnd_entry g2
    rw [blkOf, g1] at b1
    rw [blkOf, g2] at b2
    have hsub := nodup_sub_len (L := [e1, e2]) (E := ((firsts l).filter (fun f => f.blocks.contains a)).map (·.entry)) (by simp [hne]) fun x hx => by
      simp at hx
      rcases hx with rfl | rfl
      · exact List.mem_map.2 ⟨f1, (hmem f1).2 ⟨by rw [x1]; exact g1, b1⟩, x1⟩
      · exact List.mem_map.2 ⟨f2, (hmem f2).2 ⟨by rw [x2]; exact g2, b2⟩, x2⟩
    rw [hlen]
    simp at hsub ⊢
    omega
/-- In the functions of the first k entries. -/
def InFirst (l : List Fn18) (E : List Nat) (k : Nat) (a : Nat) : Prop := ∃ (j e : Nat), j < k ∧ E[j]? = some e ∧ a ∈ blkOf l e
def InTwoUpto (l : List Fn18) (E : List Nat) (k : Nat) (a : Nat) : Prop := ∃ (j e : Nat), j < k ∧ E[j]? = some e ∧ a ∈ blkOf l e ∧ InFirst l E j a
theorem two_upto (l : List Fn18) (a : Nat) : InTwoUpto l (entriesOf l) (entriesOf l).length a ↔ InTwo l a := by
  have hp := asc_pw (l.map (·.entry))
  constructor
  · rintro ⟨j, e, hj, he, ha, i, e', hi, he', ha'⟩
    have h1 := (List.pairwise_iff_getElem.1 hp) i j (by have := (List.getElem?_eq_some_iff.1 he').1; exact this) (by have := (List.getElem?_eq_some_iff.1 he).1; exact this) hi
    obtain ⟨_, x1⟩ := List.getElem?_eq_some_iff.1 he
    obtain ⟨_, x2⟩ := List.getElem?_eq_some_iff.1 he'
    have h2 : e' < e := by rw [← x1, ← x2]; exact h1
    exact ⟨e', e, List.mem_of_getElem? he', List.mem_of_getElem? he, by omega, ha', ha⟩
  · rintro ⟨e1, e2, h1, h2, hne, b1, b2⟩
    obtain ⟨i, hi, rfl⟩ := List.getElem_of_mem h1
    obtain ⟨j, hj, rfl⟩ := List.getElem_of_mem h2
    have hij : i ≠ j := fun e => by subst e; exact hne rfl
    rcases Nat.lt_or_ge i j with h | h
    · exact ⟨j, _, hj, List.getElem?_eq_getElem hj, b2, i, _, h, List.getElem?_eq_getElem hi, b1⟩
    · exact ⟨i, _, hi, List.getElem?_eq_getElem hi, b1, j, _, by omega, List.getElem?_eq_getElem hj, b2⟩

/-! ### the program's -/
theorem zero_int : ∀ w, (zeroValue 3).run Tryd.prog w = .ok (.int .i64 0) w := fun w => by kernel_rfl
def cntF (c : Nat → Nat) : Nat → Option Value := fun x => if c x = 0 then none else some (.int .i64 (c x))
theorem cntF_look (c : Nat → Nat) (x : Nat) : (cntF c x).getD (.int .i64 0) = .int .i64 (c x) := by
  unfold cntF
  by_cases h : c x = 0
  · simp [h]
  · simp [h]
theorem cntF_put (c : Nat → Nat) (a : Nat) : ∀ x, cntF (fun y => if y = a then c a + 1 else c y) x = if x = a then some (.int .i64 (c a + 1)) else cntF c x := by
  intro x
  unfold cntF
  by_cases h : x = a
  · subst h
    simp
  · simp [h]
theorem cnt_snoc {F : List Fn18} {k : Nat} {f : Fn18} (h : F[k]? = some f) (a : Nat) : cntOf (F.take (k + 1)) a = cntOf (F.take k) a + if a ∈ f.blocks then 1 else 0 := by
  unfold cntOf
  rw [take_snoc' h, List.filter_append, List.length_append, List.filter_cons]
  by_cases hm : a ∈ f.blocks <;> simp [hm]
theorem cnt_le (F : List Fn18) (a : Nat) : cntOf F a ≤ F.length := List.length_filter_le _ _

set_option maxRecDepth 100000 in
set_option maxHeartbeats 4000000 in
theorem fshared_any (w : World) (A : Option Addr) (n c : Nat) (l : List Fn18) (hl : Sl fnR w All (.slice A n c) l) (hn : n ≤ 1000) (hb : ∀ f ∈ l, f.blocks.length ≤ 1000) (L : List Nat) (hL : L.Pairwise (· < ·)) (hLm : ∀ a, a ∈ L ↔ InTwo l a) :
    Calls Tryd.prog 18 #[.slice A n c] w (ListOf w L) := by
  have hmm := @run_makeMap Tryd.prog
  obtain ⟨i0, hi, hz0, hz1, hz2⟩ := info_parts info_w32
  have HI := hid hi; clear hi
  have HZ0 := hid hz0; clear hz0
  have HZ1 := hid hz1; clear hz1
  have HZ2 := hid hz2; clear hz2
  have hlen := hl.len
  obtain ⟨F, hF⟩ : ∃ F, firsts l = F := ⟨_, rfl⟩
  have hFl : F.length ≤ 1000 := by have := firsts_len l; rw [hF] at this; omega
  have hFb : ∀ f ∈ F, f.blocks.length ≤ 1000 := fun f hf => hb f (firsts_sub (by rw [hF]; exact hf))
  have hcnt : ∀ a, a ∈ L ↔ 1 < cntOf F a := fun a => by rw [hLm, ← cnt_two, hF]
  have HS := hid hl; clear hl hlen
  have HF := hid hF; clear hF
  have HFB := hid hFb; clear hFb
  have HLP := hid hL; clear hL
  have hb32 : ∀ f ∈ F, ∀ a ∈ f.blocks, a < 4294967296 := fun f hf a ha => by
    have hfl : f ∈ l := firsts_sub (by rw [HF.out]; exact hf)
    obtain ⟨k, hk, rfl⟩ := List.getElem_of_mem hfl
    obtain ⟨_, _, _, _, _, _, _, hbk, _⟩ := Sl_fn_at HS.out (List.getElem?_eq_getElem hk)
    exact hbk.num_lt a ha
  have HB32 := hid hb32; clear hb32
  have HFN := hid hFl
  have HCNT := hid hcnt; clear hcnt hLm hb
  have HX0 := hid ((Ext.refl w).alloc (.map #[] 0))
  go_enter Tryd.func18, Tryd.ntmps18
  go_wp2_with fail
  refine (first_any _ A n c l (HS.out.ext HX0.out) (by omega)).mono ?_
  rintro e w2 ⟨hx2, A2, c2, rfl, hs2⟩
  rw [HF.out] at hs2 ⊢
  have HX2 := hid (HX0.out.trans hx2)
  have HS2 := hid hs2
  have hc2 := hs2.cap
  have hc21 := hc2.1
  have hc22 := hc2.2
  have hm2 := (MapG.made (u32K Tryd.underlying32) w).ext hx2
  have HM2 := hid hm2
  have hlt2 := hm2.lt
  clear hx2 hs2 hc2 HX0 hm2
  obtain ⟨N, hN⟩ : ∃ N, F.length = N := ⟨_, rfl⟩
  rw [hN] at HS2 hc21 hFl ⊢
  have HN := hid hN; clear hN
  obtain ⟨K, hK⟩ : ∃ K, w.heap.size = K := ⟨_, rfl⟩
  rw [hK] at HM2 hlt2 ⊢
  have HK := hid hK; clear hK
  go_wp2
  go_loopw [15] (fun i wr => ∃ (k q : Nat), k ≤ N ∧ i = .int .i64 k ∧ Hid (Ext w wr) ∧ Hid (Sl fnR wr All (.slice A2 N c2) F) ∧ Hid (MapG (u32K Tryd.underlying32) wr K q (cntF fun x => cntOf (F.take k) x) ∧ q ≤ 1000 * k)) (fun i _ => N - (intOf i).toNat)
  case atStart => exact ⟨0, 0, by omega, rfl, HX2, HS2, hid ⟨HM2.out.same fun x => by simp [cntF, cntOf], by omega⟩⟩
  case round =>
    obtain ⟨k, q, hk, rfl, hx, hs, hm⟩ := hrel
    have hqk := hm.out.2
    by_cases h1 : k < N
    · obtain ⟨f, hf⟩ : ∃ f, F[k]? = some f := ⟨_, List.getElem?_eq_getElem (by have := HN.out; omega)⟩
      obtain ⟨b, off, bA, bc, cA, cc, rfl, hbk, -, hel, hnm, c0, c1, d2, c3, c4⟩ := Sl_fn_at hs.out hf
      have hfb := HFB.out f (List.mem_of_getElem? hf)
      have HFK := hid hf; clear hf
      have HBK := hid hbk; clear hbk hnm
      have HX3 := hid ((Ext.refl wr).alloc (Obj.cells #[.int .u32 f.entry, .string f.name, .slice bA f.blocks.length bc, .slice cA f.calls.length cc, .bool f.leaf] 34))
      go_wp2_with fail
      refine (fsorted_any _ All bA f.blocks.length bc f.blocks (HBK.out.ext HX3.out) (by omega)).mono ?_
      rintro e w5 ⟨hx5, A5, c5, rfl, ho5⟩
      have HX5 := hid (HX3.out.trans hx5)
      obtain ⟨D, hD⟩ : ∃ D, asc f.blocks = D := ⟨_, rfl⟩
      have hDm : ∀ a, a ∈ D ↔ a ∈ f.blocks := fun a => by rw [← hD]; exact asc_mem
      have hDp : D.Pairwise (· < ·) := by rw [← hD]; exact asc_pw _
      have hDl : D.length ≤ 1000 := by have := asc_len f.blocks; rw [hD] at this; omega
      rw [hD] at ho5 ⊢
      have HS5 := hid ho5.sl
      have hcapd := ho5.sl.cap
      have hcd1 := hcapd.1
      have hcd2 := hcapd.2
      have HDM := hid hDm; clear hDm
      have HDP := hid hDp; clear hDp
      have HM5 := hid (hm.out.1.ext HX5.out)
      obtain ⟨ND, hND⟩ : ∃ ND, D.length = ND := ⟨_, rfl⟩
      rw [hND] at HS5 hcd1 hDl ⊢
      have HND := hid hND
      clear hx5 ho5 hD hcapd hND c0 c1 d2 c3 c4
      go_wp2
      go_loopw [23] (fun i wr => ∃ (j q' : Nat), j ≤ ND ∧ i = .int .i64 j ∧ Hid (w5.grownBy wr (some K)) ∧ Hid (MapG (u32K Tryd.underlying32) wr K q' (cntF fun x => cntOf (F.take k) x + if x ∈ D.take j then 1 else 0) ∧ q' ≤ 1000 * k + j)) (fun i _ => ND - (intOf i).toNat)
      case atStart => exact ⟨0, q, by omega, rfl, hid (World.grownBy.refl _ _), hid ⟨HM5.out.same fun x => by simp [cntF], by omega⟩⟩
      case round =>
        obtain ⟨j, q', hj, rfl, hg, hm'⟩ := hrel
        have hqj := hm'.out.2
        by_cases h2 : j < ND
        · obtain ⟨x, hxj⟩ : ∃ x, D[j]? = some x := ⟨_, List.getElem?_eq_getElem (by have := HND.out; omega)⟩
          obtain ⟨b2, off2, rfl, cx, hx32⟩ := (HM5.out.sl hg.out HS5.out).num_at hxj
          have hnot : x ∉ D.take j := fun h => by
            obtain ⟨i, hi, he⟩ := List.getElem_of_mem h
            simp at hi
            rw [List.getElem_take] at he
            have h3 := (List.pairwise_iff_getElem.1 HDP.out) i j (by omega) (by have := HND.out; omega) (by omega)
            obtain ⟨_, h4⟩ := List.getElem?_eq_some_iff.1 hxj
            omega
          have HMJ := hid hm'.out.1
          obtain ⟨ct, hct⟩ : ∃ ct, cntOf (F.take k) x = ct := ⟨_, rfl⟩
          have hctl : ct ≤ 1000 := by
            have := cnt_le (F.take k) x
            rw [List.length_take] at this
            omega
          have hlook : (cntF (fun x => cntOf (F.take k) x + if x ∈ D.take j then 1 else 0) x).getD (.int .i64 0) = .int .i64 ct := by
            rw [cntF_look, hct, if_neg hnot]
            rfl
          have hput : ∀ y, cntF (fun x => cntOf (F.take k) x + if x ∈ D.take (j + 1) then 1 else 0) y = if y = x then some (.int .i64 ((ct : Int) + 1)) else cntF (fun x => cntOf (F.take k) x + if x ∈ D.take j then 1 else 0) y := by
            intro y
            rw [take_snoc' hxj]
            by_cases hyx : y = x
            · subst hyx
              rw [if_pos rfl]
              simp [cntF, hct]
            · rw [if_neg hyx]
              simp [cntF, hyx]
          have HLOOK := hid hlook
          have HPUT := hid hput
          clear hxj hnot hct hlook hput
          go_wp2_with (first
            | ((with_reducible refine wpList_at_look 64 (.tmp 27) (.tmp 28) rfl rfl ?_); refine wpList_look _ rfl (.tmp 27) (.tmp 28) 64 rfl 3 Tryd.underlying64 (.int .i64 0) (zero_int _) (u32K Tryd.underlying32) K q' _ rfl HMJ.out x rfl hx32 (.int .i64 ct) HLOOK.out ?_)
            | (at_mapUpdate; refine wpList_put _ rfl (.tmp 27) (.tmp 28) (.tmp 30) 64 rfl 3 Tryd.underlying64 (u32K Tryd.underlying32) K q' _ rfl HMJ.out (by unfold maxLen; omega) x rfl hx32 (.int .i64 ((ct : Int) + 1)) rfl ?_; intro w7 hm7 hg7; have HM7 := hid (MapG.same hm7 HPUT.out); have HG7 := hid (grownBy_same hg.out hg7); clear hm7 hg7)
            | fail)
          first
            | go_roundw
            | refine ⟨?rel, ?measure⟩
          case rel => exact ⟨j + 1, q' + 1, by omega, by go_num, HG7, hid ⟨HM7.out, by omega⟩⟩
          case measure => simp [intOf]; omega
        · obtain rfl : ND = j := by omega
          have e1 : D.take ND = D := List.take_of_length_le (by have := HND.out; omega)
          have hmz := hm'.out.1
          rw [e1] at hmz
          have hmy := hmz.same (f' := cntF fun x => cntOf (F.take (k + 1)) x) fun x => by
            have e2 : cntOf (F.take (k + 1)) x = cntOf (F.take k) x + if x ∈ D then 1 else 0 := by rw [cnt_snoc HFK.out]; simp only [HDM.out x]
            simp only [cntF, e2]
          have HMY := hid hmy
          clear hmz hmy e1
          have hLw : w.heap.size ≤ K := by have := HK.out; omega
          go_wp2
          first
            | go_roundw
            | refine ⟨?rel, ?measure⟩
          case rel => exact ⟨k + 1, q', by omega, by go_num, hid ((hx.out.trans HX5.out).grown hg.out fun g hg => by cases hg; exact hLw), hid (HM5.out.sl hg.out (hs.out.ext HX5.out)), hid ⟨HMY.out, by omega⟩⟩
          case measure => simp [intOf]; omega
    · obtain rfl : N = k := by omega
      have e1 : F.take N = F := List.take_of_length_le (by have := HN.out; omega)
      have hmz := hm.out.1
      rw [e1] at hmz
      have HMZ := hid hmz
      clear hmz e1 hs
      obtain ⟨wo, hwo⟩ : ∃ wo : World, wo = wr := ⟨_, rfl⟩
      subst hwo
      go_wp2_with (first
        | (at_range; refine wpList_rangeG _ rfl (.tmp 33) 64 rfl 3 Tryd.underlying64 (u32K Tryd.underlying32) K q _ rfl HMZ.out ?_; intro w0 cnt0 hcnt0 hrg0 hg0 hs0; have HR0 := hid hrg0; have HX0 := hid (hx.out.grown hg0 (fun j hj => by cases hj)); have HS0 := hid hs0; clear hrg0 hg0 hs0)
        | fail)
      go_frame
      have hwK : K < wo.heap.size := HMZ.out.lt
      have hwo2 : w.heap.size ≤ wo.heap.size := hx.out.size
      have hq6 : q ≤ 1000000 := by omega
      clear hqk hk hc21 hc22 hFl hlt2
      go_loopw [8] (fun v wr => ∃ (A8 : Option Addr) (c8 : Nat) (M : List Nat) (left : Nat → Bool) (cnt : Nat), v = .slice A8 M.length c8 ∧ Hid (RangeG (u32K Tryd.underlying32) wr K wo.heap.size q (cntF fun x => cntOf F x) left cnt ∧ M.length + cnt ≤ q) ∧ Hid (OwnS u32R wr (wo.heap.size + 1) 32 All (.slice A8 M.length c8) M ∧ wo.heap.size + 1 ≤ wr.heap.size) ∧ Hid (Ext w wr) ∧ Hid (M.Nodup ∧ ∀ a, a ∈ M ↔ left a = false ∧ 1 < cntOf F a))
        (fun _ wr => wr.rangeLeft K wo.heap.size)
      case atStart =>
        refine ⟨none, 0, [], _, cnt0, rfl, hid ⟨HR0.out, by simpa using hcnt0⟩, hid ⟨OwnS.nil, by rw [HS0.out]; exact Nat.le_refl _⟩, HX0, hid ⟨List.nodup_nil, fun a => ?_⟩⟩
        simp only [List.not_mem_nil, false_iff]
        rintro ⟨h1, h2⟩
        have h3 : cntOf F a ≠ 0 := by omega
        simp [cntF, h3] at h1
      case round =>
        obtain ⟨A8, c8, M, left, cnt, rfl, hrg, hown, hxx, hinv⟩ := hrel
        have hMq := hrg.out.2
        have hrg1 := hrg.out.1
        go_wp2_with (first
          | (at_next; refine wpList_nextU _ rfl (.tmp 34) rfl Tryd.underlying32 K wo.heap.size q _ left cnt rfl hrg1 ?_ ?_)
          | fail)
        · intro _ hl0
          have HL0 := hid hl0; clear hl0 hrg1
          go_wp2_with fail
          refine (fsorted_any _ All A8 M.length c8 M hown.out.1.sl (by omega)).mono ?_
          rintro e w6 ⟨hx6, A6, c6, rfl, ho6⟩
          have he : asc M = L := by
            refine pw_ext (asc_pw M) HLP.out fun a => ?_
            rw [asc_mem, hinv.out.2, HCNT.out]
            constructor
            · exact fun h => h.2
            · intro h
              refine ⟨?_, h⟩
              rcases Nat.lt_or_ge a 4294967296 with h32 | h32
              · exact HL0.out a h32
              · exfalso
                unfold cntOf at h
                have h0 : 0 < (F.filter fun f => f.blocks.contains a).length := by omega
                obtain ⟨f, hf⟩ := List.exists_mem_of_length_pos h0
                rw [List.mem_filter, List.contains_iff_mem] at hf
                have := HB32.out f hf.1 a hf.2
                omega
          have HX6 := hid (hxx.out.trans hx6)
          have HS6 := hid ho6.sl
          rw [he] at HS6 ⊢
          clear hx6 ho6 he
          go_wp2
          go_ret
          exact ⟨HX6.out, A6, c6, rfl, HS6.out⟩
        · intro x v w1 cnt1 hx32 hlx hfx hrg2 hlt hg1 hs1 hen
          have hcx : cntOf F x ≠ 0 ∧ v = .int .i64 (cntOf F x) := by
            unfold cntF at hfx
            by_cases h : cntOf F x = 0
            · rw [if_pos h] at hfx; cases hfx
            · rw [if_neg h] at hfx
              injection hfx with hfx
              exact ⟨h, hfx.symm⟩
          obtain ⟨hcx0, rfl⟩ := hcx
          have hx32' : x < 4294967296 := hx32
          have hctl : cntOf F x ≤ 1000 := by
            have := cnt_le F x
            have := HN.out
            have := HFN.out
            omega
          have hrl : w1.rangeLeft K wo.heap.size < wr.rangeLeft K wo.heap.size := by rw [hrg2.left_eq, hrg1.left_eq]; exact hlt
          have HRL := hid hrl
          have HRG := hid hrg2
          have HLX := hid hlx
          have HX1 := hid (hxx.out.grown hg1 fun j hj => by cases hj; exact hwo2)
          have HO1 := hid (own_num_far hown.out.1 hg1 (by
            cases h : (Value.slice A8 M.length c8).ownBlock with
            | none => exact .inl rfl
            | some g => exact .inr fun e => by injection e with e; have := (hown.out.1.block g h).1; omega))
          obtain ⟨ct, hct⟩ : ∃ ct, cntOf F x = ct := ⟨_, rfl⟩
          rw [hct] at hcx0 hctl
          have hsz1 : w1.heap.size = wr.heap.size := hs1
          have hb1 := hown.out.2
          have HSZ1 := hid hsz1
          have hnx : x ∉ M := fun h => by have := ((hinv.out.2 x).1 h).1; rw [hlx] at this; cases this
          have HNX := hid hnx
          rw [hct] at hen ⊢
          have HCT := hid hct
          clear hfx hrg1 hrg2 hlt hg1 hs1 hrl hx32 hct hlx hnx hsz1
          by_cases h2 : 1 < ct
          · have hcnt1 : M.length + 1 + cnt1 ≤ q := by
              have := HRL.out
              rw [HRG.out.left_eq, hrg.out.1.left_eq] at this
              omega
            have hb2 : wo.heap.size + 1 ≤ w1.heap.size := by have := HSZ1.out; omega
            go_wp2_with (first
              | (at_builtin; refine wpList_app1s rfl (.tmp 42) (.tmp 44) 23 rfl (wo.heap.size + 1) 32 i0 _ 1 4 Tryd.underlying23 HI.out HZ0.out HZ1.out HZ2.out rfl u32R rfl (.slice A8 M.length c8) M rfl HO1.out w1.heap.size rfl x rfl ⟨rfl, hx32'⟩ (by omega) (by omega) hb2 ?_; intro A5 c5 w5 hown5 hg5; have HO5 := hid hown5; have HG5 := hid (((Ext.refl w1).alloc (Obj.cells #[.int .u32 x] 32)).grownBy (Value.slice A8 M.length c8).ownBlock |>.andThen hg5 (fun j hj => .inr hj)); clear hown5 hg5)
              | fail)
            have hk2 := HRG.out.kept HG5.out (fun e => by have := (HO1.out.block _ e.symm).1; omega) (fun e => by have := (HO1.out.block _ e.symm).1; omega)
            have hms : w5.rangeLeft K wo.heap.size < wr.rangeLeft K wo.heap.size := by
              rw [hk2.left_eq, ← HRG.out.left_eq]
              exact HRL.out
            first
              | go_roundw
              | refine ⟨?rel, ?measure⟩
            case rel =>
              refine ⟨A5, c5, M ++ [x], _, cnt1, by simp, hid ⟨hk2, by simp; omega⟩, hid ⟨by simpa using HO5.out, Nat.le_trans hb2 HG5.out.size⟩, hid (HX1.out.grown HG5.out fun g hg => by have := (HO1.out.block g hg).1; omega), hid ⟨?_, fun a => ?_⟩⟩
              · rw [List.nodup_append]
                exact ⟨hinv.out.1, by simp, fun p hp r hr e => by simp at hr; subst hr; subst e; exact HNX.out hp⟩
              · rw [List.mem_append, hinv.out.2, List.mem_singleton]
                by_cases hax : a = x
                · subst hax
                  simp
                  rw [HCT.out]
                  omega
                · simp [hax]
            case measure => exact hms
          · have hcnt1 : M.length + cnt1 ≤ q := by
              have := HRL.out
              rw [HRG.out.left_eq, hrg.out.1.left_eq] at this
              omega
            go_wp2
            first
              | go_roundw
              | refine ⟨?rel, ?measure⟩
            case rel =>
              refine ⟨A8, c8, M, _, cnt1, rfl, hid ⟨HRG.out, hcnt1⟩, hid ⟨HO1.out, by have := HSZ1.out; omega⟩, HX1, hid ⟨hinv.out.1, fun a => ?_⟩⟩
              rw [hinv.out.2]
              by_cases hax : a = x
              · subst hax
                rw [HCT.out]
                constructor
                · rintro ⟨_, h⟩; omega
                · rintro ⟨_, h⟩; omega
              · simp [hax]
            case measure => exact HRL.out

/-! ### the reference's -/
theorem first_next {l : List Fn18} {E : List Nat} {k e : Nat} (he : E[k]? = some e) (a : Nat) : InFirst l E (k + 1) a ↔ InFirst l E k a ∨ a ∈ blkOf l e := by
  constructor
  · rintro ⟨j, e', hj, he', ha⟩
    rcases Nat.lt_or_ge j k with h | h
    · exact .inl ⟨j, e', h, he', ha⟩
    · obtain rfl : j = k := by omega
      rw [he] at he'
      cases he'
      exact .inr ha
  · rintro (⟨j, e', hj, he', ha⟩ | ha)
    · exact ⟨j, e', by omega, he', ha⟩
    · exact ⟨k, e, by omega, he, ha⟩
theorem two_next {l : List Fn18} {E : List Nat} {k e : Nat} (he : E[k]? = some e) (a : Nat) : InTwoUpto l E (k + 1) a ↔ InTwoUpto l E k a ∨ (a ∈ blkOf l e ∧ InFirst l E k a) := by
  constructor
  · rintro ⟨j, e', hj, he', ha, hf⟩
    rcases Nat.lt_or_ge j k with h | h
    · exact .inl ⟨j, e', h, he', ha, hf⟩
    · obtain rfl : j = k := by omega
      rw [he] at he'
      cases he'
      exact .inr ⟨ha, hf⟩
  · rintro (⟨j, e', hj, he', ha, hf⟩ | ⟨ha, hf⟩)
    · exact ⟨j, e', by omega, he', ha, hf⟩
    · exact ⟨k, e, by omega, he, ha, hf⟩


theorem shared_list (l : List Fn18) : ∃ L : List Nat, L.Pairwise (· < ·) ∧ ∀ a, a ∈ L ↔ InTwo l a := by
  refine ⟨asc (((firsts l).flatMap (·.blocks)).filter fun a => decide (1 < cntOf (firsts l) a)), asc_pw _, fun a => ?_⟩
  rw [asc_mem, List.mem_filter, ← cnt_two]
  simp only [decide_eq_true_iff]
  refine ⟨fun h => h.2, fun h => ⟨?_, h⟩⟩
  have h0 : 0 < ((firsts l).filter fun f => f.blocks.contains a).length := by unfold cntOf at h; omega
  obtain ⟨f, hf⟩ := List.exists_mem_of_length_pos h0
  rw [List.mem_filter, List.contains_iff_mem] at hf
  exact List.mem_flatMap.2 ⟨f, hf.1, hf.2⟩

end Go.Proofs.YtnlmhnbogleijaaDoor
