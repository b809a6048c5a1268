/- Shared: the program's, the reference's; the statement FuncsShared. -/
import Derived.Test.YtnlmhnbogleijaaFunI
namespace Go.Proofs.Ytnlmhnbogleijaa
open Go.RowKit Go.Deco
set_option linter.unusedSimpArgs false
set_option linter.unusedVariables false

/-! ### what both compute -/
def blkOf (l : List Fn18) (e : Nat) : List Nat := match fnd l e with | some f => f.blocks | none => []
def cntOf (F : List Fn18) (a : Nat) : Nat := (F.filter fun f => f.blocks.contains a).length
/-- An address in the functions of two entries. -/
def InTwo (l : List Fn18) (a : Nat) : Prop := ∃ e1 e2, e1 ∈ entriesOf l ∧ e2 ∈ entriesOf l ∧ e1 ≠ e2 ∧ a ∈ blkOf l e1 ∧ a ∈ blkOf l e2
theorem cnt_two (l : List Fn18) (a : Nat) : 1 < cntOf (firsts l) a ↔ InTwo l a := by
  have hmem : ∀ f, f ∈ (firsts l).filter (fun f => f.blocks.contains a) ↔ fnd l f.entry = some f ∧ a ∈ f.blocks := by
    intro f
    rw [List.mem_filter, firsts_mem, List.contains_iff_mem]
  have hnd : (((firsts l).filter (fun f => f.blocks.contains a)).map (·.entry)).Nodup := (firsts_nodup l).sublist (List.Sublist.map _ List.filter_sublist)
  have hlen : cntOf (firsts l) a = (((firsts l).filter (fun f => f.blocks.contains a)).map (·.entry)).length := by rw [List.length_map, cntOf]
  constructor
  · intro h
    rw [cntOf] at h
    have h0 : ((firsts l).filter (fun f => f.blocks.contains a))[0] ∈ (firsts l).filter (fun f => f.blocks.contains a) := List.getElem_mem _
    have h1 : ((firsts l).filter (fun f => f.blocks.contains a))[1] ∈ (firsts l).filter (fun f => f.blocks.contains a) := List.getElem_mem _
    have hne := (List.pairwise_iff_getElem.1 hnd) 0 1 (by rw [List.length_map]; omega) (by rw [List.length_map]; omega) (by omega)
    simp only [List.getElem_map] at hne
    obtain ⟨g0, b0⟩ := (hmem _).1 h0
    obtain ⟨g1, b1⟩ := (hmem _).1 h1
    exact ⟨_, _, entries_mem.2 (by rw [g0]; rfl), entries_mem.2 (by rw [g1]; rfl), hne, by rw [blkOf, g0]; exact b0, by rw [blkOf, g1]; exact b1⟩
  · rintro ⟨e1, e2, h1, h2, hne, b1, b2⟩
    obtain ⟨f1, g1⟩ := fnd_some (entries_mem.1 h1)
    obtain ⟨f2, g2⟩ := fnd_some (entries_mem.1 h2)
    have x1 := fnd_entry g1
    have x2 := fnd_entry g2
    rw [blkOf, g1] at b1
    rw [blkOf, g2] at b2
    have hsub := nodup_sub_len (L := [e1, e2]) (E := ((firsts l).filter (fun f => f.blocks.contains a)).map (·.entry)) (by simp [hne]) fun x hx => by
      simp at hx
      rcases hx with rfl | rfl
      · exact List.mem_map.2 ⟨f1, (hmem f1).2 ⟨by rw [x1]; exact g1, b1⟩, x1⟩
      · exact List.mem_map.2 ⟨f2, (hmem f2).2 ⟨by rw [x2]; exact g2, b2⟩, x2⟩
    rw [hlen]
    simp at hsub ⊢
    omega
/-- In the functions of the first k entries. -/
def InFirst (l : List Fn18) (E : List Nat) (k : Nat) (a : Nat) : Prop := ∃ (j e : Nat), j < k ∧ E[j]? = some e ∧ a ∈ blkOf l e
def InTwoUpto (l : List Fn18) (E : List Nat) (k : Nat) (a : Nat) : Prop := ∃ (j e : Nat), j < k ∧ E[j]? = some e ∧ a ∈ blkOf l e ∧ InFirst l E j a
theorem two_upto (l : List Fn18) (a : Nat) : InTwoUpto l (entriesOf l) (entriesOf l).length a ↔ InTwo l a := by
  have hp := asc_pw (l.map (·.entry))
  constructor
  · rintro ⟨j, e, hj, he, ha, i, e', hi, he', ha'⟩
    have h1 := (List.pairwise_iff_getElem.1 hp) i j (by have := (List.getElem?_eq_some_iff.1 he').1; exact this) (by have := (List.getElem?_eq_some_iff.1 he).1; exact this) hi
    obtain ⟨_, x1⟩ := List.getElem?_eq_some_iff.1 he
    obtain ⟨_, x2⟩ := List.getElem?_eq_some_iff.1 he'
    have h2 : e' < e := by rw [← x1, ← x2]; exact h1
    exact ⟨e', e, List.mem_of_getElem? he', List.mem_of_getElem? he, by omega, ha', ha⟩
  · rintro ⟨e1, e2, h1, h2, hne, b1, b2⟩
    obtain ⟨i, hi, rfl⟩ := List.getElem_of_mem h1
    obtain ⟨j, hj, rfl⟩ := List.getElem_of_mem h2
    have hij : i ≠ j := fun e => by subst e; exact hne rfl
    rcases Nat.lt_or_ge i j with h | h
    · exact ⟨j, _, hj, List.getElem?_eq_getElem hj, b2, i, _, h, List.getElem?_eq_getElem hi, b1⟩
    · exact ⟨i, _, hi, List.getElem?_eq_getElem hi, b1, j, _, by omega, List.getElem?_eq_getElem hj, b2⟩

/-! ### the program's -/
theorem zero_int : ∀ w, (zeroValue 3).run Try.prog w = .ok (.int .i64 0) w := fun w => by kernel_rfl
def cntF (c : Nat → Nat) : Nat → Option Value := fun x => if c x = 0 then none else some (.int .i64 (c x))
theorem cntF_look (c : Nat → Nat) (x : Nat) : (cntF c x).getD (.int .i64 0) = .int .i64 (c x) := by
  unfold cntF
  by_cases h : c x = 0
  · simp [h]
  · simp [h]
theorem cntF_put (c : Nat → Nat) (a : Nat) : ∀ x, cntF (fun y => if y = a then c a + 1 else c y) x = if x = a then some (.int .i64 (c a + 1)) else cntF c x := by
  intro x
  unfold cntF
  by_cases h : x = a
  · subst h
    simp
  · simp [h]
theorem cnt_snoc {F : List Fn18} {k : Nat} {f : Fn18} (h : F[k]? = some f) (a : Nat) : cntOf (F.take (k + 1)) a = cntOf (F.take k) a + if a ∈ f.blocks then 1 else 0 := by
  unfold cntOf
  rw [take_snoc' h, List.filter_append, List.length_append, List.filter_cons]
  by_cases hm : a ∈ f.blocks <;> simp [hm]
theorem cnt_le (F : List Fn18) (a : Nat) : cntOf F a ≤ F.length := List.length_filter_le _ _

set_option maxRecDepth 100000 in
set_option maxHeartbeats 4000000 in
theorem fshared_any (w : World) (A : Option Addr) (n c : Nat) (l : List Fn18) (hl : Sl fnR w All (.slice A n c) l) (hn : n ≤ 1000) (hb : ∀ f ∈ l, f.blocks.length ≤ 1000) (L : List Nat) (hL : L.Pairwise (· < ·)) (hLm : ∀ a, a ∈ L ↔ InTwo l a) :
    Calls Try.prog 22 #[.slice A n c] w (ListOf w L) := by
  have hmm := @run_makeMap Try.prog
  obtain ⟨i0, hi, hz0, hz1, hz2⟩ := info_parts info_w32
  have HI := hid hi; clear hi
  have HZ0 := hid hz0; clear hz0
  have HZ1 := hid hz1; clear hz1
  have HZ2 := hid hz2; clear hz2
  have hlen := hl.len
  obtain ⟨F, hF⟩ : ∃ F, firsts l = F := ⟨_, rfl⟩
  have hFl : F.length ≤ 1000 := by have := firsts_len l; rw [hF] at this; omega
  have hFb : ∀ f ∈ F, f.blocks.length ≤ 1000 := fun f hf => hb f (firsts_sub (by rw [hF]; exact hf))
  have hcnt : ∀ a, a ∈ L ↔ 1 < cntOf F a := fun a => by rw [hLm, ← cnt_two, hF]
  have HS := hid hl; clear hl hlen
  have HF := hid hF; clear hF
  have HFB := hid hFb; clear hFb
  have HLP := hid hL; clear hL
  have hb32 : ∀ f ∈ F, ∀ a ∈ f.blocks, a < 4294967296 := fun f hf a ha => by
    have hfl : f ∈ l := firsts_sub (by rw [HF.out]; exact hf)
    obtain ⟨k, hk, rfl⟩ := List.getElem_of_mem hfl
    obtain ⟨_, _, _, _, _, _, _, hbk, _⟩ := Sl_fn_at HS.out (List.getElem?_eq_getElem hk)
    exact hbk.num_lt a ha
  have HB32 := hid hb32; clear hb32
  have HFN := hid hFl
  have HCNT := hid hcnt; clear hcnt hLm hb
  have HX0 := hid ((Ext.refl w).alloc (.map #[] 0))
  go_enter Try.func22, Try.ntmps22
  go_wp2_with fail
  refine (first_any _ A n c l (HS.out.ext HX0.out) (by omega)).mono ?_
  rintro e w2 ⟨hx2, A2, c2, rfl, hs2⟩
  rw [HF.out] at hs2 ⊢
  have HX2 := hid (HX0.out.trans hx2)
  have HS2 := hid hs2
  have hc2 := hs2.cap
  have hc21 := hc2.1
  have hc22 := hc2.2
  have hm2 := (MapG.made (u32K Try.underlying32) w).ext hx2
  have HM2 := hid hm2
  have hlt2 := hm2.lt
  clear hx2 hs2 hc2 HX0 hm2
  obtain ⟨N, hN⟩ : ∃ N, F.length = N := ⟨_, rfl⟩
  rw [hN] at HS2 hc21 hFl ⊢
  have HN := hid hN; clear hN
  obtain ⟨K, hK⟩ : ∃ K, w.heap.size = K := ⟨_, rfl⟩
  rw [hK] at HM2 hlt2 ⊢
  have HK := hid hK; clear hK
  go_wp2
  go_loopw [15] (fun i wr => ∃ (k q : Nat), k ≤ N ∧ i = .int .i64 k ∧ Hid (Ext w wr) ∧ Hid (Sl fnR wr All (.slice A2 N c2) F) ∧ Hid (MapG (u32K Try.underlying32) wr K q (cntF fun x => cntOf (F.take k) x) ∧ q ≤ 1000 * k)) (fun i _ => N - (intOf i).toNat)
  case atStart => exact ⟨0, 0, by omega, rfl, HX2, HS2, hid ⟨HM2.out.same fun x => by simp [cntF, cntOf], by omega⟩⟩
  case round =>
    obtain ⟨k, q, hk, rfl, hx, hs, hm⟩ := hrel
    have hqk := hm.out.2
    by_cases h1 : k < N
    · obtain ⟨f, hf⟩ : ∃ f, F[k]? = some f := ⟨_, List.getElem?_eq_getElem (by have := HN.out; omega)⟩
      obtain ⟨b, off, bA, bc, cA, cc, rfl, hbk, -, hel, hnm, c0, c1, d2, c3, c4⟩ := Sl_fn_at hs.out hf
      have hfb := HFB.out f (List.mem_of_getElem? hf)
      have HFK := hid hf; clear hf
      have HBK := hid hbk; clear hbk hnm
      have HX3 := hid ((Ext.refl wr).alloc (Obj.cells #[.int .u32 f.entry, .string f.name, .slice bA f.blocks.length bc, .slice cA f.calls.length cc, .bool f.leaf] 43))
      go_wp2_with fail
      refine (fsorted_any _ All bA f.blocks.length bc f.blocks (HBK.out.ext HX3.out) (by omega)).mono ?_
      rintro e w5 ⟨hx5, A5, c5, rfl, ho5⟩
      have HX5 := hid (HX3.out.trans hx5)
      obtain ⟨D, hD⟩ : ∃ D, asc f.blocks = D := ⟨_, rfl⟩
      have hDm : ∀ a, a ∈ D ↔ a ∈ f.blocks := fun a => by rw [← hD]; exact asc_mem
      have hDp : D.Pairwise (· < ·) := by rw [← hD]; exact asc_pw _
      have hDl : D.length ≤ 1000 := by have := asc_len f.blocks; rw [hD] at this; omega
      rw [hD] at ho5 ⊢
      have HS5 := hid ho5.sl
      have hcapd := ho5.sl.cap
      have hcd1 := hcapd.1
      have hcd2 := hcapd.2
      have HDM := hid hDm; clear hDm
      have HDP := hid hDp; clear hDp
      have HM5 := hid (hm.out.1.ext HX5.out)
      obtain ⟨ND, hND⟩ : ∃ ND, D.length = ND := ⟨_, rfl⟩
      rw [hND] at HS5 hcd1 hDl ⊢
      have HND := hid hND
      clear hx5 ho5 hD hcapd hND c0 c1 d2 c3 c4
      go_wp2
      go_loopw [23] (fun i wr => ∃ (j q' : Nat), j ≤ ND ∧ i = .int .i64 j ∧ Hid (w5.grownBy wr (some K)) ∧ Hid (MapG (u32K Try.underlying32) wr K q' (cntF fun x => cntOf (F.take k) x + if x ∈ D.take j then 1 else 0) ∧ q' ≤ 1000 * k + j)) (fun i _ => ND - (intOf i).toNat)
      case atStart => exact ⟨0, q, by omega, rfl, hid (World.grownBy.refl _ _), hid ⟨HM5.out.same fun x => by simp [cntF], by omega⟩⟩
      case round =>
        obtain ⟨j, q', hj, rfl, hg, hm'⟩ := hrel
        have hqj := hm'.out.2
        by_cases h2 : j < ND
        · obtain ⟨x, hxj⟩ : ∃ x, D[j]? = some x := ⟨_, List.getElem?_eq_getElem (by have := HND.out; omega)⟩
          obtain ⟨b2, off2, rfl, cx, hx32⟩ := (HM5.out.sl hg.out HS5.out).num_at hxj
          have hnot : x ∉ D.take j := fun h => by
            obtain ⟨i, hi, he⟩ := List.getElem_of_mem h
            simp at hi
            rw [List.getElem_take] at he
            have h3 := (List.pairwise_iff_getElem.1 HDP.out) i j (by omega) (by have := HND.out; omega) (by omega)
            obtain ⟨_, h4⟩ := List.getElem?_eq_some_iff.1 hxj
            omega
          have HMJ := hid hm'.out.1
          obtain ⟨ct, hct⟩ : ∃ ct, cntOf (F.take k) x = ct := ⟨_, rfl⟩
          have hctl : ct ≤ 1000 := by
            have := cnt_le (F.take k) x
            rw [List.length_take] at this
            omega
          have hlook : (cntF (fun x => cntOf (F.take k) x + if x ∈ D.take j then 1 else 0) x).getD (.int .i64 0) = .int .i64 ct := by
            rw [cntF_look, hct, if_neg hnot]
            rfl
          have hput : ∀ y, cntF (fun x => cntOf (F.take k) x + if x ∈ D.take (j + 1) then 1 else 0) y = if y = x then some (.int .i64 ((ct : Int) + 1)) else cntF (fun x => cntOf (F.take k) x + if x ∈ D.take j then 1 else 0) y := by
            intro y
            rw [take_snoc' hxj]
            by_cases hyx : y = x
            · subst hyx
              rw [if_pos rfl]
              simp [cntF, hct]
            · rw [if_neg hyx]
              simp [cntF, hyx]
          have HLOOK := hid hlook
          have HPUT := hid hput
          clear hxj hnot hct hlook hput
          go_wp2_with (first
            | ((with_reducible refine wpList_at_look 57 (.tmp 27) (.tmp 28) rfl rfl ?_); refine wpList_look _ rfl (.tmp 27) (.tmp 28) 57 rfl 3 Try.underlying57 (.int .i64 0) (zero_int _) (u32K Try.underlying32) K q' _ rfl HMJ.out x rfl hx32 (.int .i64 ct) HLOOK.out ?_)
            | (at_mapUpdate; refine wpList_put _ rfl (.tmp 27) (.tmp 28) (.tmp 30) 57 rfl 3 Try.underlying57 (u32K Try.underlying32) K q' _ rfl HMJ.out (by unfold maxLen; omega) x rfl hx32 (.int .i64 ((ct : Int) + 1)) rfl ?_; intro w7 hm7 hg7; have HM7 := hid (MapG.same hm7 HPUT.out); have HG7 := hid (grownBy_same hg.out hg7); clear hm7 hg7)
            | fail)
          first
            | go_roundw
            | refine ⟨?rel, ?measure⟩
          case rel => exact ⟨j + 1, q' + 1, by omega, by go_num, HG7, hid ⟨HM7.out, by omega⟩⟩
          case measure => simp [intOf]; omega
        · obtain rfl : ND = j := by omega
          have e1 : D.take ND = D := List.take_of_length_le (by have := HND.out; omega)
          have hmz := hm'.out.1
          rw [e1] at hmz
          have hmy := hmz.same (f' := cntF fun x => cntOf (F.take (k + 1)) x) fun x => by
            have e2 : cntOf (F.take (k + 1)) x = cntOf (F.take k) x + if x ∈ D then 1 else 0 := by rw [cnt_snoc HFK.out]; simp only [HDM.out x]
            simp only [cntF, e2]
          have HMY := hid hmy
          clear hmz hmy e1
          have hLw : w.heap.size ≤ K := by have := HK.out; omega
          go_wp2
          first
            | go_roundw
            | refine ⟨?rel, ?measure⟩
          case rel => exact ⟨k + 1, q', by omega, by go_num, hid ((hx.out.trans HX5.out).grown hg.out fun g hg => by cases hg; exact hLw), hid (HM5.out.sl hg.out (hs.out.ext HX5.out)), hid ⟨HMY.out, by omega⟩⟩
          case measure => simp [intOf]; omega
    · obtain rfl : N = k := by omega
      have e1 : F.take N = F := List.take_of_length_le (by have := HN.out; omega)
      have hmz := hm.out.1
      rw [e1] at hmz
      have HMZ := hid hmz
      clear hmz e1 hs
      obtain ⟨wo, hwo⟩ : ∃ wo : World, wo = wr := ⟨_, rfl⟩
      subst hwo
      go_wp2_with (first
        | (at_range; refine wpList_rangeG _ rfl (.tmp 33) 57 rfl 3 Try.underlying57 (u32K Try.underlying32) K q _ rfl HMZ.out ?_; intro w0 cnt0 hcnt0 hrg0 hg0 hs0; have HR0 := hid hrg0; have HX0 := hid (hx.out.grown hg0 (fun j hj => by cases hj)); have HS0 := hid hs0; clear hrg0 hg0 hs0)
        | fail)
      go_frame
      have hwK : K < wo.heap.size := HMZ.out.lt
      have hwo2 : w.heap.size ≤ wo.heap.size := hx.out.size
      have hq6 : q ≤ 1000000 := by omega
      clear hqk hk hc21 hc22 hFl hlt2
      go_loopw [8] (fun v wr => ∃ (A8 : Option Addr) (c8 : Nat) (M : List Nat) (left : Nat → Bool) (cnt : Nat), v = .slice A8 M.length c8 ∧ Hid (RangeG (u32K Try.underlying32) wr K wo.heap.size q (cntF fun x => cntOf F x) left cnt ∧ M.length + cnt ≤ q) ∧ Hid (OwnS u32R wr (wo.heap.size + 1) 32 All (.slice A8 M.length c8) M ∧ wo.heap.size + 1 ≤ wr.heap.size) ∧ Hid (Ext w wr) ∧ Hid (M.Nodup ∧ ∀ a, a ∈ M ↔ left a = false ∧ 1 < cntOf F a))
        (fun _ wr => wr.rangeLeft K wo.heap.size)
      case atStart =>
        refine ⟨none, 0, [], _, cnt0, rfl, hid ⟨HR0.out, by simpa using hcnt0⟩, hid ⟨OwnS.nil, by rw [HS0.out]; exact Nat.le_refl _⟩, HX0, hid ⟨List.nodup_nil, fun a => ?_⟩⟩
        simp only [List.not_mem_nil, false_iff]
        rintro ⟨h1, h2⟩
        have h3 : cntOf F a ≠ 0 := by omega
        simp [cntF, h3] at h1
      case round =>
        obtain ⟨A8, c8, M, left, cnt, rfl, hrg, hown, hxx, hinv⟩ := hrel
        have hMq := hrg.out.2
        have hrg1 := hrg.out.1
        go_wp2_with (first
          | (at_next; refine wpList_nextU _ rfl (.tmp 34) rfl Try.underlying32 K wo.heap.size q _ left cnt rfl hrg1 ?_ ?_)
          | fail)
        · intro _ hl0
          have HL0 := hid hl0; clear hl0 hrg1
          go_wp2_with fail
          refine (fsorted_any _ All A8 M.length c8 M hown.out.1.sl (by omega)).mono ?_
          rintro e w6 ⟨hx6, A6, c6, rfl, ho6⟩
          have he : asc M = L := by
            refine pw_ext (asc_pw M) HLP.out fun a => ?_
            rw [asc_mem, hinv.out.2, HCNT.out]
            constructor
            · exact fun h => h.2
            · intro h
              refine ⟨?_, h⟩
              rcases Nat.lt_or_ge a 4294967296 with h32 | h32
              · exact HL0.out a h32
              · exfalso
                unfold cntOf at h
                have h0 : 0 < (F.filter fun f => f.blocks.contains a).length := by omega
                obtain ⟨f, hf⟩ := List.exists_mem_of_length_pos h0
                rw [List.mem_filter, List.contains_iff_mem] at hf
                have := HB32.out f hf.1 a hf.2
                omega
          have HX6 := hid (hxx.out.trans hx6)
          have HS6 := hid ho6.sl
          rw [he] at HS6 ⊢
          clear hx6 ho6 he
          go_wp2
          go_ret
          exact ⟨HX6.out, A6, c6, rfl, HS6.out⟩
        · intro x v w1 cnt1 hx32 hlx hfx hrg2 hlt hg1 hs1 hen
          have hcx : cntOf F x ≠ 0 ∧ v = .int .i64 (cntOf F x) := by
            unfold cntF at hfx
            by_cases h : cntOf F x = 0
            · rw [if_pos h] at hfx; cases hfx
            · rw [if_neg h] at hfx
              injection hfx with hfx
              exact ⟨h, hfx.symm⟩
          obtain ⟨hcx0, rfl⟩ := hcx
          have hx32' : x < 4294967296 := hx32
          have hctl : cntOf F x ≤ 1000 := by
            have := cnt_le F x
            have := HN.out
            have := HFN.out
            omega
          have hrl : w1.rangeLeft K wo.heap.size < wr.rangeLeft K wo.heap.size := by rw [hrg2.left_eq, hrg1.left_eq]; exact hlt
          have HRL := hid hrl
          have HRG := hid hrg2
          have HLX := hid hlx
          have HX1 := hid (hxx.out.grown hg1 fun j hj => by cases hj; exact hwo2)
          have HO1 := hid (own_num_far hown.out.1 hg1 (by
            cases h : (Value.slice A8 M.length c8).ownBlock with
            | none => exact .inl rfl
            | some g => exact .inr fun e => by injection e with e; have := (hown.out.1.block g h).1; omega))
          obtain ⟨ct, hct⟩ : ∃ ct, cntOf F x = ct := ⟨_, rfl⟩
          rw [hct] at hcx0 hctl
          have hsz1 : w1.heap.size = wr.heap.size := hs1
          have hb1 := hown.out.2
          have HSZ1 := hid hsz1
          have hnx : x ∉ M := fun h => by have := ((hinv.out.2 x).1 h).1; rw [hlx] at this; cases this
          have HNX := hid hnx
          rw [hct] at hen ⊢
          have HCT := hid hct
          clear hfx hrg1 hrg2 hlt hg1 hs1 hrl hx32 hct hlx hnx hsz1
          by_cases h2 : 1 < ct
          · have hcnt1 : M.length + 1 + cnt1 ≤ q := by
              have := HRL.out
              rw [HRG.out.left_eq, hrg.out.1.left_eq] at this
              omega
            have hb2 : wo.heap.size + 1 ≤ w1.heap.size := by have := HSZ1.out; omega
            go_wp2_with (first
              | (at_builtin; refine wpList_app1s rfl (.tmp 42) (.tmp 44) 29 rfl (wo.heap.size + 1) 32 i0 _ 1 4 Try.underlying29 HI.out HZ0.out HZ1.out HZ2.out rfl u32R rfl (.slice A8 M.length c8) M rfl HO1.out w1.heap.size rfl x rfl ⟨rfl, hx32'⟩ (by omega) (by omega) hb2 ?_; intro A5 c5 w5 hown5 hg5; have HO5 := hid hown5; have HG5 := hid (((Ext.refl w1).alloc (Obj.cells #[.int .u32 x] 32)).grownBy (Value.slice A8 M.length c8).ownBlock |>.andThen hg5 (fun j hj => .inr hj)); clear hown5 hg5)
              | fail)
            have hk2 := HRG.out.kept HG5.out (fun e => by have := (HO1.out.block _ e.symm).1; omega) (fun e => by have := (HO1.out.block _ e.symm).1; omega)
            have hms : w5.rangeLeft K wo.heap.size < wr.rangeLeft K wo.heap.size := by
              rw [hk2.left_eq, ← HRG.out.left_eq]
              exact HRL.out
            first
              | go_roundw
              | refine ⟨?rel, ?measure⟩
            case rel =>
              refine ⟨A5, c5, M ++ [x], _, cnt1, by simp, hid ⟨hk2, by simp; omega⟩, hid ⟨by simpa using HO5.out, Nat.le_trans hb2 HG5.out.size⟩, hid (HX1.out.grown HG5.out fun g hg => by have := (HO1.out.block g hg).1; omega), hid ⟨?_, fun a => ?_⟩⟩
              · rw [List.nodup_append]
                exact ⟨hinv.out.1, by simp, fun p hp r hr e => by simp at hr; subst hr; subst e; exact HNX.out hp⟩
              · rw [List.mem_append, hinv.out.2, List.mem_singleton]
                by_cases hax : a = x
                · subst hax
                  simp
                  rw [HCT.out]
                  omega
                · simp [hax]
            case measure => exact hms
          · have hcnt1 : M.length + cnt1 ≤ q := by
              have := HRL.out
              rw [HRG.out.left_eq, hrg.out.1.left_eq] at this
              omega
            go_wp2
            first
              | go_roundw
              | refine ⟨?rel, ?measure⟩
            case rel =>
              refine ⟨A8, c8, M, _, cnt1, rfl, hid ⟨HRG.out, hcnt1⟩, hid ⟨HO1.out, by have := HSZ1.out; omega⟩, HX1, hid ⟨hinv.out.1, fun a => ?_⟩⟩
              rw [hinv.out.2]
              by_cases hax : a = x
              · subst hax
                rw [HCT.out]
                constructor
                · rintro ⟨_, h⟩; omega
                · rintro ⟨_, h⟩; omega
              · simp [hax]
            case measure => exact HRL.out

/-! ### the reference's -/
theorem first_next {l : List Fn18} {E : List Nat} {k e : Nat} (he : E[k]? = some e) (a : Nat) : InFirst l E (k + 1) a ↔ InFirst l E k a ∨ a ∈ blkOf l e := by
  constructor
  · rintro ⟨j, e', hj, he', ha⟩
    rcases Nat.lt_or_ge j k with h | h
    · exact .inl ⟨j, e', h, he', ha⟩
    · obtain rfl : j = k := by omega
      rw [he] at he'
      cases he'
      exact .inr ha
  · rintro (⟨j, e', hj, he', ha⟩ | ha)
    · exact ⟨j, e', by omega, he', ha⟩
    · exact ⟨k, e, by omega, he, ha⟩
theorem two_next {l : List Fn18} {E : List Nat} {k e : Nat} (he : E[k]? = some e) (a : Nat) : InTwoUpto l E (k + 1) a ↔ InTwoUpto l E k a ∨ (a ∈ blkOf l e ∧ InFirst l E k a) := by
  constructor
  · rintro ⟨j, e', hj, he', ha, hf⟩
    rcases Nat.lt_or_ge j k with h | h
    · exact .inl ⟨j, e', h, he', ha, hf⟩
    · obtain rfl : j = k := by omega
      rw [he] at he'
      cases he'
      exact .inr ⟨ha, hf⟩
  · rintro (⟨j, e', hj, he', ha, hf⟩ | ⟨ha, hf⟩)
    · exact ⟨j, e', by omega, he', ha, hf⟩
    · exact ⟨k, e, by omega, he, ha, hf⟩

set_option maxRecDepth 100000 in
set_option maxHeartbeats 4000000 in
theorem rshared_any (w : World) (A : Option Addr) (n c : Nat) (l : List Fn18) (hl : Sl fnR w All (.slice A n c) l) (hn : n ≤ 1000) (hb : ∀ f ∈ l, f.blocks.length ≤ 1000) (L : List Nat) (hL : L.Pairwise (· < ·)) (hLm : ∀ a, a ∈ L ↔ InTwo l a) :
    Calls Try.prog 23 #[.slice A n c] w (ListOf w L) := by
  obtain ⟨i0, hi, hz0, hz1, hz2⟩ := info_parts info_w32
  have HI := hid hi; clear hi
  have HZ0 := hid hz0; clear hz0
  have HZ1 := hid hz1; clear hz1
  have HZ2 := hid hz2; clear hz2
  have hel : (entriesOf l).length ≤ 1000 := by
    have := asc_len (l.map (·.entry))
    rw [List.length_map] at this
    rw [entriesOf]
    have := hl.len
    omega
  have hLE : ∀ a, a ∈ L ↔ InTwoUpto l (entriesOf l) (entriesOf l).length a := fun a => by rw [hLm, two_upto]
  have hfE : ∀ e ∈ entriesOf l, ∃ (p : Nat) (f : Fn18), ixFn l e = p ∧ l[p]? = some f ∧ blkOf l e = f.blocks := by
    intro e he
    obtain ⟨f0, hf0⟩ := fnd_some (entries_mem.1 he)
    rcases ixFn_cases l e with ⟨_, h2⟩ | ⟨p, f, h1, h2, h3⟩
    · rw [hf0] at h2; cases h2
    · exact ⟨p, f, h1, h2, by rw [blkOf, h3]⟩
  obtain ⟨E, hE⟩ : ∃ E, entriesOf l = E := ⟨_, rfl⟩
  rw [hE] at hel hLE hfE
  have HS := hid (hl.mono (S' := fun b => b < w.heap.size) fun b _ h => h.lt)
  have HL := hid hl; clear hl
  have HE := hid hE; clear hE
  have HBL := hid hb; clear hb
  have HLP := hid hL; clear hL
  have HLE := hid hLE; clear hLE hLm
  have HFE := hid hfE; clear hfE
  go_enter Try.func23, Try.ntmps23
  go_wp2_with fail
  refine (rentries_any w A n c l HL.out hn).mono ?_
  rintro e w2 ⟨hx2, eA, ec, rfl, hs2⟩
  rw [HE.out] at hs2 ⊢
  have HX2 := hid hx2
  have HE2 := hid hs2
  have hcap := hs2.cap
  have hcap1 := hcap.1
  have hcap2 := hcap.2
  obtain ⟨NE, hNE⟩ : ∃ NE, E.length = NE := ⟨_, rfl⟩
  rw [hNE] at HE2 hel hcap1 HLE ⊢
  have HNE := hid hNE
  clear hx2 hs2 hcap hNE
  have hww2 : w.heap.size ≤ w2.heap.size := HX2.out.size
  go_wp2
  go_loopw [3, 4, 6] (fun v3 v4 v6 wr => ∃ (k : Nat) (A3 : Option Addr) (c3 : Nat) (Sn : List Nat) (A4 : Option Addr) (c4 : Nat) (M : List Nat), k ≤ NE ∧ v6 = .int .i64 k ∧ v3 = .slice A3 Sn.length c3 ∧ v4 = .slice A4 M.length c4 ∧ Hid (Ext w2 wr) ∧ Hid (OwnS u32R wr w2.heap.size 32 All (.slice A3 Sn.length c3) Sn) ∧
    Hid (Sl u32R wr (fun b => some b ≠ (Value.slice A3 Sn.length c3).ownBlock) (.slice A4 M.length c4) M) ∧ Hid (M.Pairwise (· < ·) ∧ (∀ a, a ∈ M ↔ InTwoUpto l E k a) ∧ (∀ a, a ∈ Sn ↔ InFirst l E k a)) ∧ Hid (M.length ≤ 1000 * k ∧ Sn.length ≤ 1000 * k)) (fun _ _ v6 _ => NE - (intOf v6).toNat)
  case atStart => exact ⟨0, none, 0, [], none, 0, [], by omega, rfl, rfl, rfl, hid (Ext.refl _), hid OwnS.nil, hid Sl.nil, hid ⟨List.Pairwise.nil, fun a => ⟨fun h => by simp at h, fun ⟨j, _, hj, _⟩ => by omega⟩, fun a => ⟨fun h => by simp at h, fun ⟨j, _, hj, _⟩ => by omega⟩⟩, hid (by simp)⟩
  case round =>
    obtain ⟨k, A3, c3, Sn, A4, c4, M, hk, rfl, rfl, rfl, hx, hsn, hm, hinv, hlen⟩ := hrel
    by_cases h1 : k < NE
    · obtain ⟨a, ha⟩ : ∃ a, E[k]? = some a := ⟨_, List.getElem?_eq_getElem (by have := HNE.out; omega)⟩
      obtain ⟨b, off, rfl, ca, ha32⟩ := HE2.out.num_at ha
      have ca := hx.out.cell ca
      obtain ⟨p, f, hp, hpf, hbf⟩ := HFE.out a (List.mem_of_getElem? ha)
      have hfb := HBL.out f (List.mem_of_getElem? hpf)
      obtain ⟨b2, off2, bA, bc, cA, cc, rfl, hbk, -, hel2, -, c0, c1, d2, c3', c4'⟩ := Sl_fn_at HS.out hpf
      have hpn : p < n := by have := (List.getElem?_eq_some_iff.1 hpf).1; have := HL.out.len; omega
      have hbcap := hbk.cap
      have hbc1 := hbcap.1
      have hbc2 := hbcap.2
      have D2 := hid d2
      have d2 := (HX2.out.trans hx.out).cell d2
      have HP := hid hp
      have HAK := hid ha
      have HBF := hid hbf
      have HBK := hid hbk
      clear c0 c1 c3' c4' hp ha hbf hbk hpf hel2 hbcap
      obtain ⟨NB, hNB⟩ : ∃ NB, f.blocks.length = NB := ⟨_, rfl⟩
      rw [hNB] at D2 d2 HBK hfb hbc1
      have HNB := hid hNB; clear hNB
      obtain ⟨wo, hwo⟩ : ∃ wo : World, wo = wr := ⟨_, rfl⟩
      subst hwo
      have hM0 := hlen.out.1
      have hS0 := hlen.out.2
      have HS0B := hid hsn.out.block
      go_wp2_with fail
      refine (rindex_any wo All _ n c l (HL.out.ext (HX2.out.trans hx.out)) a).mono ?_
      rintro e w4 ⟨rfl, rfl⟩
      rw [HP.out]
      clear ca
      go_wp2
      clear d2
      go_loopw [4, 7, 9] (fun v4 v7 v9 wr => ∃ (i : Nat) (A7 : Option Addr) (c7 : Nat) (A4 : Option Addr) (c4 : Nat) (M : List Nat), i ≤ NB ∧ v9 = .int .i64 i ∧ v7 = .slice A7 i c7 ∧ v4 = .slice A4 M.length c4 ∧ Hid (Ext wo wr) ∧ Hid (OwnS u32R wr w2.heap.size 32 All (.slice A3 Sn.length c3) Sn) ∧
        Hid (OwnS u32R wr wo.heap.size 32 All (.slice A7 i c7) (f.blocks.take i)) ∧ Hid (Sl u32R wr (fun b => some b ≠ (Value.slice A3 Sn.length c3).ownBlock ∧ some b ≠ (Value.slice A7 i c7).ownBlock) (.slice A4 M.length c4) M) ∧
        Hid (M.Pairwise (· < ·) ∧ (∀ a, a ∈ M ↔ InTwoUpto l E k a ∨ (a ∈ f.blocks.take i ∧ InFirst l E k a))) ∧ Hid (M.length ≤ 1000 * k + i)) (fun _ _ v9 _ => NB - (intOf v9).toNat)
      case atStart => exact ⟨0, none, 0, A4, c4, M, by omega, rfl, rfl, rfl, hid (Ext.refl _), hsn, hid (by simpa using OwnS.nil), hid (hm.out.mono fun b hb _ => ⟨hb, own_nil⟩), hid ⟨hinv.out.1, fun a => by rw [hinv.out.2.1]; simp⟩, hid (by omega)⟩
      case round =>
        clear hm hsn
        obtain ⟨i, A7, c7, A4, c4, M, hi, rfl, rfl, rfl, hx5, hsn, how, hm, hinv5, hlen5⟩ := hrel
        have hM5 := hlen5.out
        by_cases h2 : i < NB
        · obtain ⟨x, hxi⟩ : ∃ x, f.blocks[i]? = some x := ⟨_, List.getElem?_eq_getElem (by have := HNB.out; omega)⟩
          obtain ⟨b3, off3, rfl, cx, hx32⟩ := HBK.out.num_at hxi
          have CX := hid cx
          have cx := ((HX2.out.trans hx.out).trans hx5.out).cell cx
          have HXI := hid hxi; clear hxi
          have hKL : (f.blocks.take i).length = i := by rw [List.length_take]; have := HNB.out; omega
          have HKL := hid hKL; clear hKL
          have hxc : Sn.contains x = true ↔ InFirst l E k x := by rw [List.contains_iff_mem]; exact hinv.out.2.2 x
          have hsnb := hsn.out.block
          have howb := how.out.block
          have HSNB := hid hsnb
          have HOWB := hid howb
          clear hsnb howb
          go_wp2_with fail
          refine (has_any wr All A3 Sn.length c3 Sn hsn.out.sl x).mono ?_
          rintro e w6 ⟨rfl, rfl⟩
          obtain ⟨r, hr⟩ : ∃ r, Sn.contains x = r := ⟨_, rfl⟩
          rw [hr] at hxc ⊢
          clear hr
          have HXC := hid hxc; clear hxc
          have hws : wo.heap.size ≤ wr.heap.size := hx5.out.size
          cases r with
          | false =>
            go_wp2_with (first
              | (at_builtin; refine wpList_app1l rfl (.tmp 46) (.tmp 51) 29 rfl wo.heap.size 32 i0 _ 1 4 Try.underlying29 HI.out HZ0.out HZ1.out HZ2.out rfl u32R rfl (.slice A7 i c7) (f.blocks.take i) rfl how.out wr.heap.size rfl x rfl ⟨rfl, hx32⟩ (by have := HKL.out; omega) (by have := HKL.out; omega) (by omega) ?_; intro A9 c9 w9 hown9 hg9 hl9; rw [HKL.out] at hown9 hl9; have HO9 := hid hown9; have HG9 := hid (((Ext.refl wr).alloc (Obj.cells #[.int .u32 x] 32)).grownBy (Value.slice A7 i c7).ownBlock |>.andThen hg9 (fun j hj => .inr hj)); have HL9 := hid hl9; clear hown9 hg9 hl9; rw [HKL.out])
              | fail)
            first
              | go_roundw
              | refine ⟨?rel, ?measure⟩
            case rel =>
              have hsn9 := own_num_far hsn.out HG9.out (by
                cases h : (Value.slice A3 Sn.length c3).ownBlock with
                | none => exact .inl rfl
                | some g => exact .inr fun e => by have h8 := (HS0B.out g h).2; have h9 := (HOWB.out g e.symm).1; omega)
              have hm9 : Sl u32R w9 (fun b => some b ≠ (Value.slice A3 Sn.length c3).ownBlock ∧ some b ≠ (Value.slice A9 (i + 1) c9).ownBlock) (.slice A4 M.length c4) (M) :=
                ((hm.out.mono (S' := fun b => (some b ≠ (Value.slice A3 Sn.length c3).ownBlock ∧ some b ≠ (Value.slice A7 i c7).ownBlock) ∧ b < wr.heap.size) fun b hb hc => ⟨hb, hc.lt⟩).keep (w' := w9) fun b hb hc => HG9.out.block b hc.lt hb.1.2).mono fun b hb hc => ⟨hb.1.1, fun e => by
                  rcases HL9.out b e.symm with h | h
                  · exact hb.1.2 h.symm
                  · have := hb.2
                    omega⟩
              refine ⟨i + 1, A9, c9, A4, c4, M, by omega, by go_num, rfl, rfl, hid (hx5.out.grown HG9.out fun g hg => (HOWB.out g hg).1), hid hsn9, hid (by rw [take_snoc' HXI.out]; exact HO9.out), hid hm9, hid ⟨hinv5.out.1, fun y => ?_⟩, hid (by omega)⟩
              rw [hinv5.out.2, take_snoc' HXI.out, List.mem_append, List.mem_singleton]
              constructor
              · rintro (h | ⟨h3, h4⟩)
                · exact .inl h
                · exact .inr ⟨.inl h3, h4⟩
              · rintro (h | ⟨h3 | rfl, h4⟩)
                · exact .inl h
                · exact .inr ⟨h3, h4⟩
                · exact absurd (HXC.out.2 h4) (by simp)
            case measure => simp [intOf]; omega
          | true =>
            have hsb : ∀ b, wr.heap.size ≤ b → some b ≠ (Value.slice A3 Sn.length c3).ownBlock ∧ some b ≠ (Value.slice A7 i c7).ownBlock := fun b hb => ⟨fun e => by have := (HSNB.out b e.symm).2; omega, fun e => by have := (HOWB.out b e.symm).2; omega⟩
            have HSB := hid hsb; clear hsb
            go_wp2_with fail
            refine (inserts_any _ wr wr (Ext.refl _) HSB.out A4 M.length c4 M hm.out (by omega) x hx32).mono ?_
            rintro e w8 ⟨hx8, A8, c8, rfl, hs8⟩
            have HX8 := hid (hx5.out.trans hx8)
            have HSN8 := hid (hsn.out.ext hx8)
            have HOW8 := hid (how.out.ext hx8)
            have hl8 := insOf_length M x
            have hmm8 := ins_mem M x
            have hpp8 := ins_asc (x := x) hinv5.out.1
            obtain ⟨M8, hM8⟩ : ∃ M8, insOf M x = M8 := ⟨_, rfl⟩
            rw [hM8] at hs8 hl8 hmm8 hpp8 ⊢
            have HS8 := hid hs8
            have HMM8 := hid hmm8
            have HPP8 := hid hpp8
            have hws8 : wo.heap.size ≤ w8.heap.size := HX8.out.size
            clear hx8 hs8 hmm8 hpp8 hM8 cx
            have cx := ((HX2.out.trans hx.out).trans HX8.out).cell CX.out
            go_wp2_with (first
              | (at_builtin; refine wpList_app1l rfl (.tmp 46) (.tmp 51) 29 rfl wo.heap.size 32 i0 _ 1 4 Try.underlying29 HI.out HZ0.out HZ1.out HZ2.out rfl u32R rfl (.slice A7 i c7) (f.blocks.take i) rfl HOW8.out w8.heap.size rfl x rfl ⟨rfl, hx32⟩ (by have := HKL.out; omega) (by have := HKL.out; omega) (by omega) ?_; intro A9 c9 w9 hown9 hg9 hl9; rw [HKL.out] at hown9 hl9; have HO9 := hid hown9; have HG9 := hid (((Ext.refl w8).alloc (Obj.cells #[.int .u32 x] 32)).grownBy (Value.slice A7 i c7).ownBlock |>.andThen hg9 (fun j hj => .inr hj)); have HL9 := hid hl9; clear hown9 hg9 hl9; rw [HKL.out])
              | fail)
            first
              | go_roundw
              | refine ⟨?rel, ?measure⟩
            case rel =>
              have hsn9 := own_num_far HSN8.out HG9.out (by
                cases h : (Value.slice A3 Sn.length c3).ownBlock with
                | none => exact .inl rfl
                | some g => exact .inr fun e => by have h8 := (HS0B.out g h).2; have h9 := (HOWB.out g e.symm).1; omega)
              have hm9 : Sl u32R w9 (fun b => some b ≠ (Value.slice A3 Sn.length c3).ownBlock ∧ some b ≠ (Value.slice A9 (i + 1) c9).ownBlock) (.slice A8 M8.length c8) (M8) :=
                ((HS8.out.mono (S' := fun b => (some b ≠ (Value.slice A3 Sn.length c3).ownBlock ∧ some b ≠ (Value.slice A7 i c7).ownBlock) ∧ b < w8.heap.size) fun b hb hc => ⟨hb, hc.lt⟩).keep (w' := w9) fun b hb hc => HG9.out.block b hc.lt hb.1.2).mono fun b hb hc => ⟨hb.1.1, fun e => by
                  rcases HL9.out b e.symm with h | h
                  · exact hb.1.2 h.symm
                  · have := hb.2
                    omega⟩
              refine ⟨i + 1, A9, c9, A8, c8, M8, by omega, by go_num, rfl, rfl, hid (HX8.out.grown HG9.out fun g hg => (HOWB.out g hg).1), hid hsn9, hid (by rw [take_snoc' HXI.out]; exact HO9.out), hid hm9, hid ⟨HPP8.out, fun y => ?_⟩, hid (by omega)⟩
              rw [HMM8.out, hinv5.out.2, take_snoc' HXI.out, List.mem_append, List.mem_singleton]
              constructor
              · rintro (rfl | h | ⟨h3, h4⟩)
                · exact .inr ⟨.inr rfl, HXC.out.1 trivial⟩
                · exact .inl h
                · exact .inr ⟨.inl h3, h4⟩
              · rintro (h | ⟨h3 | rfl, h4⟩)
                · exact .inr (.inl h)
                · exact .inr (.inr ⟨h3, h4⟩)
                · exact .inl rfl
            case measure => simp [intOf]; omega
        · obtain rfl : i = NB := by omega
          have e1 : f.blocks.take i = f.blocks := List.take_of_length_le (by have := HNB.out; omega)
          have hs7 := how.out.sl
          rw [e1] at hs7
          have hs7' : Sl u32R wr (fun b => some b ≠ (Value.slice A3 Sn.length c3).ownBlock) (.slice A7 i c7) f.blocks := by
            have h3 := how.out.num_sl (S := fun b => some b ≠ (Value.slice A3 Sn.length c3).ownBlock) fun b hb e => by have := (HS0B.out b e.symm).2; omega
            rw [e1] at h3
            exact h3
          have HS7 := hid hs7'
          have hbase : w2.heap.size ≤ wr.heap.size := (hx.out.trans hx5.out).size
          have hSNB := hsn.out.block
          have HSNB := hid hSNB
          have HXX := hid (hx.out.trans hx5.out)
          clear hs7 hs7' hSNB
          go_wp2_with (first
            | (at_builtin; refine wpList_appS rfl (.tmp 53) (.tmp 54) 29 rfl w2.heap.size 32 i0 _ 1 4 Try.underlying29 HI.out HZ0.out HZ1.out HZ2.out rfl u32R rfl (.slice A3 Sn.length c3) Sn rfl hsn.out A7 i c7 f.blocks _ rfl HS7.out (fun b hb _ => ⟨trivial, hb⟩) (by omega) (by omega) (by omega) ?_; intro A9 c9 w9 hown9 hg9 hl9; have HO9 := hid hown9; have HG9 := hid hg9; have HL9 := hid hl9; clear hown9 hg9 hl9)
            | fail)
          first
            | go_roundw
            | refine ⟨?rel, ?measure⟩
          case rel =>
            have hm9 : Sl u32R w9 (fun b => some b ≠ (Value.slice A9 (Sn.length + i) c9).ownBlock) (.slice A4 M.length c4) M :=
              ((hm.out.mono (S' := fun b => some b ≠ (Value.slice A3 Sn.length c3).ownBlock ∧ b < wr.heap.size) fun b hb hc => ⟨hb.1, hc.lt⟩).keep (w' := w9) fun b hb hc => HG9.out.block b hc.lt hb.1).mono fun b hb hc e => by
                rcases HL9.out with h | h
                · exact hb.1 (e.trans h)
                · rw [h] at e
                  injection e with e
                  have := hb.2
                  omega
            have hNBi : f.blocks.length = i := HNB.out
            refine ⟨k + 1, A9, c9, Sn ++ f.blocks, A4, c4, M, by omega, by go_num, by rw [List.length_append, hNBi], rfl, hid (HXX.out.grown HG9.out fun g hg => (HSNB.out g hg).1), hid (by rw [List.length_append, hNBi]; exact HO9.out), hid (by rw [List.length_append, hNBi]; exact hm9), hid ⟨hinv5.out.1, fun a' => ?_, fun a' => ?_⟩, hid ⟨by omega, by rw [List.length_append, hNBi]; omega⟩⟩
            · rw [hinv5.out.2, two_next HAK.out, HBF.out, e1]
            · rw [List.mem_append, hinv.out.2.2, first_next HAK.out, HBF.out]
          case measure => simp [intOf]; omega
    · obtain rfl : k = NE := by omega
      have hML : M = L := pw_ext hinv.out.1 HLP.out fun a => by rw [hinv.out.2.1, HLE.out]
      subst hML
      go_wp2
      go_ret
      exact ⟨HX2.out.trans hx.out, A4, c4, rfl, hm.out.all⟩

theorem shared_list (l : List Fn18) : ∃ L : List Nat, L.Pairwise (· < ·) ∧ ∀ a, a ∈ L ↔ InTwo l a := by
  refine ⟨asc (((firsts l).flatMap (·.blocks)).filter fun a => decide (1 < cntOf (firsts l) a)), asc_pw _, fun a => ?_⟩
  rw [asc_mem, List.mem_filter, ← cnt_two]
  simp only [decide_eq_true_iff]
  refine ⟨fun h => h.2, fun h => ⟨?_, h⟩⟩
  have h0 : 0 < ((firsts l).filter fun f => f.blocks.contains a).length := by unfold cntOf at h; omega
  obtain ⟨f, hf⟩ := List.exists_mem_of_length_pos h0
  rw [List.mem_filter, List.contains_iff_mem] at hf
  exact List.mem_flatMap.2 ⟨f, hf.1, hf.2⟩

set_option maxRecDepth 100000 in
set_option maxHeartbeats 4000000 in
theorem shared_any (w : World) (A : Option Addr) (n c : Nat) (l : List Fn18) (hl : Sl fnR w All (.slice A n c) l) :
    Calls Try.prog 6 #[.slice A n c] w (OneBool w true) := by
  have HL := hid hl; clear hl
  obtain ⟨L, hL1, hL2⟩ := shared_list l
  have HL1 := hid hL1; clear hL1
  have HL2 := hid hL2; clear hL2
  go_enter Try.func6, Try.ntmps6
  go_wp2_with fail
  refine (few_any w A n c l HL.out).mono ?_
  rintro e w' ⟨⟨b, rfl, hb⟩, rfl⟩
  cases b
  case' false =>
    clear hb
    go_wp2_with fail
    refine (example_any _).mono ?_
    rintro e w1 ⟨rfl, hx⟩
    have HX := hid hx; clear hx
    go_wp2
    go_ret
    exact ⟨rfl, HX.out⟩
  have hn10 : n ≤ 10 := (hb rfl).1
  have HB12 := hid (hb rfl).2
  clear hb
  have HBK := hid (show ∀ f ∈ l, f.blocks.length ≤ 1000 from fun f hf => by have := (HB12.out f hf).1; omega)
  go_wp2_with fail
  refine (from_any w A n c l HL.out (by omega)).mono ?_
  rintro e w1 ⟨hx1, fA, fc, rfl, hs1⟩
  have HX1 := hid hx1
  have HS1 := hid hs1
  have hln : l.length = n := by rw [HL.out.len]
  rw [hln] at HS1 ⊢
  clear hx1 hs1 hln
  go_wp2_with fail
  refine (fshared_any w1 fA n fc l HS1.out (by omega) HBK.out L HL1.out HL2.out).mono ?_
  rintro e w2 ⟨hx2, oA, oc, rfl, hs2⟩
  have HX2 := hid (HX1.out.trans hx2)
  have HS2 := hid hs2
  clear hx2 hs2
  go_wp2_with fail
  refine (rshared_any w2 A n c l (HL.out.ext HX2.out) (by omega) HBK.out L HL1.out HL2.out).mono ?_
  rintro e w3 ⟨hx3, pA, pc, rfl, hs3⟩
  have HX3 := hid (HX2.out.trans hx3)
  have HS3 := hid hs3
  have HS4 := hid (HS2.out.ext hx3)
  clear hx3 hs3
  go_wp2_with fail
  refine (words_any w3 w3 (Ext.refl _) oA pA L.length L.length oc pc L L HS4.out HS3.out).mono ?_
  rintro e w4 ⟨rfl, hx4⟩
  have hd : decide (L = L) = true := by simp
  rw [hd]
  have HX4 := hid (HX3.out.trans hx4)
  clear hx4 hd
  go_wp2_with fail
  refine (example_any _).mono ?_
  rintro e w9 ⟨rfl, hx9⟩
  have HX9 := hid (HX4.out.trans hx9)
  clear hx9
  go_wp2
  go_ret
  exact ⟨rfl, HX9.out⟩
end Go.Proofs.Ytnlmhnbogleijaa
