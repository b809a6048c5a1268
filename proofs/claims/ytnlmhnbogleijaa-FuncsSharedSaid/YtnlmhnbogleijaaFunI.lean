/- The reference: Order, SameOrder; the statement FuncsOrders. -/
import Derived.Test.YtnlmhnbogleijaaFunH
namespace Go.Proofs.Ytnlmhnbogleijaa
open Go.RowKit Go.Deco
set_option linter.unusedSimpArgs false
set_option linter.unusedVariables false

theorem listed_flat (o : List (List Nat)) (a : Nat) : o.flatten.contains a = listedB o a := by
  rw [Bool.eq_iff_iff, List.contains_iff_mem]
  exact flat_listed
theorem ready_eq (l : List Fn18) (B : Nat → Nat → Bool) (hB : ∀ a b, B a b = true ↔ Reach l a b) {o : List (List Nat)} (h : OrdG (entriesOf l) B o) {a : Nat} (ha : a ∈ entriesOf l) :
    readyOf l (compOf (entriesOf l) B a) o.flatten = readyB (entriesOf l) B o a := by
  rw [ready_ref l B hB h ha]
  unfold readyOf
  simp only [listed_flat]

theorem own_num_far {w w' : World} {T : Nat → Prop} {kd : IntKind} {bd base : Nat} {e : TypeId} {v : Value} {l : List Nat} {row : Option Nat} (h : OwnS (numR kd bd) w base e T v l) (hg : w.grownBy w' row) (hne : v.ownBlock = none ∨ v.ownBlock ≠ row) : OwnS (numR kd bd) w' base e T v l := by
  obtain ⟨xs, ho, hc⟩ := h
  exact ⟨xs, ho.kept hg hne, chunks_num.2 (chunks_num.1 hc)⟩

set_option maxRecDepth 100000 in
set_option maxHeartbeats 4000000 in
theorem rorder_any (w : World) (A : Option Addr) (n c : Nat) (l : List Fn18) (hl : Sl fnR w All (.slice A n c) l) (hn : n ≤ 1000) (hc : ∀ f ∈ l, f.calls.length ≤ 1000) (B : Nat → Nat → Bool) (hB : ∀ a b, B a b = true ↔ Reach l a b) :
    Calls Try.prog 19 #[.slice A n c] w (SlssPost w (orderOf (entriesOf l) B)) := by
  obtain ⟨i0, hi, hz0, hz1, hz2⟩ := info_parts info_w32
  have HI := hid hi; clear hi
  have HZ0 := hid hz0; clear hz0
  have HZ1 := hid hz1; clear hz1
  have HZ2 := hid hz2; clear hz2
  obtain ⟨j0, hi, hz0, hz1, hz2⟩ := info_parts info_sl
  have HJ := hid hi; clear hi
  have HJ0 := hid hz0; clear hz0
  have HJ1 := hid hz1; clear hz1
  have HJ2 := hid hz2; clear hz2
  have HP := hid (pre_reach l B hB)
  have hel : (entriesOf l).length ≤ 1000 := by
    have := asc_len (l.map (·.entry))
    rw [List.length_map] at this
    rw [entriesOf]
    have := hl.len
    omega
  have hre := fun o h a ha => ready_eq l B hB (o := o) h (a := a) ha
  have hco := fun w' hl' a ha ha' => component_any w' A n c l hl' hn hc B hB a ha ha'
  obtain ⟨E, hE⟩ : ∃ E, entriesOf l = E := ⟨_, rfl⟩
  rw [hE] at HP hel hre hco ⊢
  obtain ⟨O, hO⟩ : ∃ O, orderOf E B = O := ⟨_, rfl⟩
  rw [hO]
  have HS := hid hl; clear hl
  have HC := hid hc; clear hc
  have HB := hid hB; clear hB
  have HE := hid hE; clear hE
  have HO := hid hO; clear hO
  have HRE := hid hre; clear hre
  have HCO := hid hco; clear hco
  obtain ⟨NE, hNE⟩ : ∃ NE, E.length = NE := ⟨_, rfl⟩
  rw [hNE] at hel
  have HNE := hid hNE; clear hNE
  go_enter Try.func19, Try.ntmps19
  go_wp2_with fail
  refine (rentries_any w A n c l HS.out hn).mono ?_
  rintro e w2 ⟨hx2, eA, ec, rfl, hs2⟩
  rw [HE.out, HNE.out] at hs2
  rw [HE.out, HNE.out]
  have HX2 := hid hx2
  have HE2 := hid hs2
  have hcap := hs2.cap
  have hcap1 := hcap.1
  have hcap2 := hcap.2
  clear hx2 hs2 hcap
  go_wp2
  go_loopw [3, 4] (fun v3 v4 wr => ∃ (o : List (List Nat)) (m : Nat) (A3 : Option Addr) (c3 : Nat) (A4 : Option Addr) (c4 K : Nat), v3 = .slice A3 o.length c3 ∧ v4 = .slice A4 K c4 ∧ Hid (Ext w2 wr) ∧ Hid (o.flatten.length = K ∧ NE ≤ K + m) ∧
    Hid (OwnS u32R wr w2.heap.size 32 All (.slice A4 K c4) o.flatten) ∧ Hid (OwnS (slR u32R) wr w2.heap.size 29 (fun b => b < wr.heap.size ∧ some b ≠ (Value.slice A4 K c4).ownBlock) (.slice A3 o.length c3) o) ∧
    Hid ((Value.slice A3 o.length c3).ownBlock = none ∨ (Value.slice A3 o.length c3).ownBlock ≠ (Value.slice A4 K c4).ownBlock) ∧ Hid (OrdG E B o ∧ orderN E B m o = O ∧ o.length ≤ K ∧ K ≤ NE)) (fun _ v4 _ => NE - sliceLen v4)
  case atStart => exact ⟨[], NE, none, 0, none, 0, 0, rfl, rfl, hid (Ext.refl _), hid ⟨rfl, by omega⟩, hid OwnS.nil, hid OwnS.nil, hid (.inl rfl), hid ⟨OrdG.nil, by rw [← HO.out, orderOf, HNE.out], by simp, by omega⟩⟩
  case round =>
    obtain ⟨o, m, A3, c3, A4, c4, K, rfl, rfl, hx, hK, ho4, ho3, hne, hord⟩ := hrel
    have hKN := hord.out.2.2.2
    have hoK := hord.out.2.2.1
    by_cases h1 : K < NE
    · have HST := hid (hord.out.1.more HP.out (by have := HNE.out; have := hK.out.1; omega))
      obtain ⟨wo, hwo⟩ : ∃ wo : World, wo = wr := ⟨_, rfl⟩
      subst hwo
      go_wp2
      go_loopw [3, 4, 6] (fun v3 v4 v6 wr => ∃ k : Nat, k ≤ NE ∧ v6 = .int .i64 k ∧ v3 = .slice A3 o.length c3 ∧ v4 = .slice A4 K c4 ∧ Hid (Ext wo wr) ∧ Hid (∀ (j a : Nat), j < k → E[j]? = some a → (!listedB o a && readyB E B o a) = false)) (fun _ _ v6 _ => NE - (intOf v6).toNat)
      case atStart => exact ⟨0, by omega, rfl, rfl, rfl, hid (Ext.refl _), hid (fun j a hj => by omega)⟩
      case round =>
        obtain ⟨k, hk, rfl, rfl, rfl, hx3, hno⟩ := hrel
        by_cases h2 : k < NE
        · obtain ⟨a, ha⟩ : ∃ a, E[k]? = some a := ⟨_, List.getElem?_eq_getElem (by have := HNE.out; omega)⟩
          have haE := List.mem_of_getElem? ha
          obtain ⟨b, off, rfl, ca, ha32⟩ := HE2.out.num_at ha
          have CA := hid ca
          have ca := (hx.out.trans hx3.out).cell ca
          have HAK := hid ha; clear ha
          have HAE := hid haE; clear haE
          have HX3 := hid (hx.out.trans hx3.out)
          go_wp2_with fail
          refine (HCO.out wr ((HS.out.ext HX2.out).ext HX3.out) a ha32 HAE.out).mono ?_
          rintro e w4 ⟨hx4, A7, c7, rfl, hs7⟩
          have HX4 := hid (HX3.out.trans hx4)
          have HXW := hid (hx3.out.trans hx4)
          have HS7 := hid (hs7.mono (S' := fun b => wr.heap.size ≤ b ∧ b < w4.heap.size) fun b hb h => ⟨hb, h.lt⟩)
          have hwr4 := hx4.size
          have HWR4 := hid hwr4; clear hwr4
          obtain ⟨C, hC⟩ : ∃ C, compOf E B a = C := ⟨_, rfl⟩
          rw [hC] at HS7 ⊢
          have HCE := hid hC; clear hC
          clear hx4 hs7 ca
          have ca := HX4.out.cell CA.out
          have HO4 := hid (ho4.out.ext HXW.out)
          go_wp2_with fail
          refine (has_any w4 All A4 K c4 o.flatten HO4.out.sl a).mono ?_
          rintro e w5 ⟨rfl, rfl⟩
          rw [listed_flat]
          obtain ⟨r, hr⟩ : ∃ r, listedB o a = r := ⟨_, rfl⟩
          rw [hr]
          have HR := hid hr; clear hr
          cases r with
          | true =>
            clear ca
            go_wp2
            first
              | go_roundw
              | refine ⟨?rel, ?measure⟩
            case rel =>
              refine ⟨k + 1, by omega, by go_num, rfl, rfl, HXW, hid fun j x hj hx => ?_⟩
              rcases Nat.lt_or_ge j k with h | h
              · exact hno.out j x h hx
              · obtain rfl : j = k := by omega
                have := HAK.out.symm.trans hx
                injection this with this
                rw [← this, HR.out]
                rfl
            case measure => simp [intOf]; omega
          | false =>
            clear ca
            have hrd := HRE.out o hord.out.1 a HAE.out
            rw [HCE.out] at hrd
            have HRD := hid hrd; clear hrd
            go_wp2_with fail
            refine (ready_any w4 A n c l ((HS.out.ext HX2.out).ext HX4.out) HC.out A7 c7 C.length C HS7.out.all A4 c4 K o.flatten HO4.out.sl).mono ?_
            rintro e w5 ⟨rfl, hx5⟩
            rw [HRD.out]
            have HX5 := hid (HX4.out.trans hx5)
            have HXW5 := hid (HXW.out.trans hx5)
            have HS5 := hid (HS7.out.ext hx5)
            have HX45 := hid hx5
            clear hx5
            obtain ⟨q, hq⟩ : ∃ q, readyB E B o a = q := ⟨_, rfl⟩
            rw [hq]
            have HQ := hid hq; clear hq
            cases q with
            | false =>
              go_wp2
              first
                | go_roundw
                | refine ⟨?rel, ?measure⟩
              case rel =>
                refine ⟨k + 1, by omega, by go_num, rfl, rfl, HXW5, hid fun j x hj hx => ?_⟩
                rcases Nat.lt_or_ge j k with h | h
                · exact hno.out j x h hx
                · obtain rfl : j = k := by omega
                  have := HAK.out.symm.trans hx
                  injection this with this
                  rw [← this, HQ.out]
                  simp
              case measure => simp [intOf]; omega
            | true =>
              have hst : stepO E B o = some a := by
                rw [stepO, List.find?_eq_some_iff_getElem]
                obtain ⟨hkl, hka⟩ := List.getElem?_eq_some_iff.1 HAK.out
                refine ⟨by rw [HR.out, HQ.out]; rfl, k, hkl, hka, fun j' hj' => ?_⟩
                have := hno.out j' _ hj' (List.getElem?_eq_getElem (by omega))
                simp [this]
              have hnew := hord.out.1.snoc HP.out hst
              have hgr := hord.out.1.grow HP.out hst
              rw [HCE.out] at hnew hgr
              have hfl : (o ++ [C]).flatten.length = K + C.length := by rw [← hK.out.1]; simp [List.flatten_append]
              have hflN := nodup_sub_len (hnew.flat HP.out).1 (hnew.flat HP.out).2
              rw [HNE.out, hfl] at hflN
              have hC0 : 0 < C.length := by have := hK.out.1; omega
              obtain ⟨m', rfl⟩ : ∃ m', m = m' + 1 := ⟨m - 1, by have := hK.out.2; omega⟩
              have hon := hord.out.2.1
              rw [orderN_some hst, HCE.out] at hon
              have HNEW := hid hnew
              have HON := hid hon
              have HFL := hid hfl
              have hKm := hK.out.2
              clear hnew hgr hon hfl hst
              obtain ⟨F, hF⟩ : ∃ F, o.flatten = F := ⟨_, rfl⟩
              have HO5 := hid (ho4.out.ext HXW5.out)
              rw [hF] at HO5
              have hFK : F.length = K := by rw [← hF]; exact hK.out.1
              have HFK := hid hFK
              have HFE := hid hF
              have hflC : F.length + C.length ≤ NE := by have := HFL.out; rw [hFK]; exact hflN
              clear hF hFK
              have hne4 : (Value.slice A4 K c4).ownBlock = none ∨ (Value.slice A4 K c4).ownBlock ≠ (Value.slice A3 o.length c3).ownBlock := by
                cases h' : (Value.slice A4 K c4).ownBlock with
                | none => exact .inl rfl
                | some g =>
                  refine .inr fun e => ?_
                  rcases hne.out with h | h
                  · rw [h] at e; cases e
                  · exact h (by rw [← e, h'])
              have HNE4 := hid hne4
              clear hne4
              have HB4 := hid ho4.out.block
              have HB3 := hid ho3.out.block
              have hwow5 := HXW5.out.size
              have hwowr := hx3.out.size
              have HOUT := hid (own_T (T' := fun b => b < w5.heap.size ∧ some b ≠ (Value.slice A4 K c4).ownBlock) (ho3.out.ext HXW5.out) fun b hb hc => ⟨hc.lt, hb.2⟩)
              have hbase : w2.heap.size ≤ w5.heap.size := Nat.le_trans hx.out.size hwow5
              have hw45 := HX45.out.size
              have hx5x := (Ext.refl w5).alloc (Obj.cells #[.slice A7 C.length c7] 29)
              have HX5X := hid hx5x
              have hsz5 : (w5.alloc (Obj.cells #[.slice A7 C.length c7] 29)).heap.size = w5.heap.size + 1 := by simp
              have HSZ5 := hid hsz5
              have hccap := HS5.out.cap
              have hcc1 := hccap.1
              clear hx5x hsz5 hccap
              have hNE0 : NE ≤ 1000 := hel
              go_wp2_with (first
                | (at_builtin; refine wpList_app1l rfl (.tmp 40) (.tmp 42) 27 rfl w2.heap.size 29 j0 _ 1 24 Try.underlying27 HJ.out HJ0.out HJ1.out HJ2.out rfl (slR u32R) rfl (.slice A3 o.length c3) o rfl HOUT.out w5.heap.size rfl C rfl ⟨_, rfl, HS5.out.mono (fun b hb hc => ⟨⟨hc.lt, fun e => by have := (HB4.out b e.symm).2; omega⟩, fun e => by have := (HB3.out b e.symm).2; omega⟩)⟩ (by omega) (by omega) hbase ?_; intro A9 c9 w6 hown6 hg6 hl6; have HO6 := hid hown6; have HG6 := hid (HX5X.out.grownBy (Value.slice A3 o.length c3).ownBlock |>.andThen hg6 (fun j hj => .inr hj)); have HL6 := hid hl6; have hsz6 := (show w5.heap.size ≤ w6.heap.size from Nat.le_trans HX5X.out.size hg6.size); have HSZ6 := hid hsz6; have HO46 := hid (own_num_far HO5.out HG6.out HNE4.out); have HS6 := hid (HS5.out.keep (w' := w6) fun b hb hc => HG6.out.block b hc.lt fun e => by have := (HB3.out b e.symm).2; omega); clear hown6 hg6 hl6 hsz6)
                | (at_builtin; refine wpList_appS rfl (.tmp 44) (.tmp 45) 29 rfl w2.heap.size 32 i0 _ 1 4 Try.underlying29 HI.out HZ0.out HZ1.out HZ2.out rfl u32R rfl (.slice A4 K c4) F rfl HO46.out A7 C.length c7 C (fun b => wr.heap.size ≤ b ∧ b < w4.heap.size) rfl HS6.out (fun b hb _ => ⟨trivial, fun e => by have := (HB4.out b e.symm).2; omega⟩) (by omega) (by omega) (by have := HSZ6.out; omega) ?_; intro A10 c10 w7 hown7 hg7 hl7; have HO7 := hid hown7; have HG7 := hid hg7; have HL7 := hid hl7; clear hown7 hg7 hl7)
                | fail)
              first
                | go_roundw
                | refine ⟨?rel, ?measure⟩
              case rel =>
                have hb9 : ∀ g, (Value.slice A9 (o.length + 1) c9).ownBlock = some g → g < w6.heap.size ∧ some g ≠ (Value.slice A4 K c4).ownBlock := by
                  intro g hg
                  refine ⟨(HO6.out.block g hg).2, fun e => ?_⟩
                  have h4 := (HB4.out g e.symm).2
                  rcases HL6.out g hg with h | h
                  · rcases hne.out with h5 | h5
                    · rw [h5] at h; cases h
                    · exact h5 (h.trans e)
                  · omega
                have hg67 := HG7.out
                have ho9 : OwnS (slR u32R) w7 w2.heap.size 29 (fun b => b < w5.heap.size ∧ some b ≠ (Value.slice A4 K c4).ownBlock) (.slice A9 (o.length + 1) c9) (o ++ [C]) := by
                  refine HO6.out.kept hg67 ?_ fun b hb hbn hc => hg67.block b hc.lt hb.2
                  cases h' : (Value.slice A9 (o.length + 1) c9).ownBlock with
                  | none => exact .inl rfl
                  | some g => exact .inr (hb9 g h').2
                have hX7 : Ext w2 w7 := ((hx.out.trans HXW5.out).grown HG6.out (fun g hg => (HB3.out g hg).1)).grown hg67 (fun g hg => (HB4.out g hg).1)
                refine ⟨o ++ [C], m', A9, c9, A10, c10, F.length + C.length, by simp, rfl, hid hX7, hid ⟨by rw [HFL.out, HFK.out], by have := HFK.out; omega⟩, hid ?_, hid ?_, hid ?_, hid ⟨HNEW.out, HON.out, ?_, ?_⟩⟩
                · have h8 := HO7.out
                  have e8 : (o ++ [C]).flatten = F ++ C := by rw [← HFE.out]; simp [List.flatten_append]
                  rw [e8]
                  exact h8
                · have h9 := own_T (T' := fun b => b < w7.heap.size ∧ some b ≠ (Value.slice A10 (F.length + C.length) c10).ownBlock) ho9 fun b hb hc => ⟨hc.lt, fun e => by
                    rcases HL7.out with h | h
                    · exact hb.2 (e.trans h)
                    · rw [h] at e
                      injection e with e
                      have := HSZ6.out
                      have := hb.1
                      omega⟩
                  simpa using h9
                · cases h' : (Value.slice A9 (o.length + 1) c9).ownBlock with
                  | none => exact .inl (by simpa using h')
                  | some g =>
                    refine .inr ?_
                    have h9 := hb9 g h'
                    have e9 : (Value.slice A9 (o ++ [C]).length c9).ownBlock = some g := by simpa using h'
                    rw [e9]
                    intro e
                    rcases HL7.out with h | h
                    · exact h9.2 (e.trans h)
                    · rw [h] at e
                      injection e with e
                      omega
                · have := HFK.out
                  rw [List.length_append]
                  simp only [List.length_singleton]
                  omega
                · omega
              case measure =>
                have := HFK.out
                simp [sliceLen]
                omega
        · obtain rfl : k = NE := by omega
          exfalso
          obtain ⟨a, ha⟩ := HST.out
          have h1 := List.find?_some ha
          obtain ⟨j, hj, rfl⟩ := List.getElem_of_mem (List.mem_of_find?_eq_some ha)
          have := hno.out j _ (by have := HNE.out; omega) (List.getElem?_eq_getElem hj)
          rw [this] at h1
          cases h1
    · have hfin : o = O := by
        have h5 := hord.out.2.1
        rw [orderN_done (step_all (hord.out.1.full HP.out (by have := HNE.out; have := hK.out.1; omega)))] at h5
        exact h5
      subst hfin
      go_wp2
      go_ret
      exact ⟨HX2.out.trans hx.out, A3, c3, rfl, ho3.out.sl⟩

set_option maxRecDepth 100000 in
set_option maxHeartbeats 2000000 in
theorem sameorder_any (w : World) (A B : Option Addr) (n c d : Nat) (o : List (List Nat)) (hl : Sl (slR u32R) w All (.slice A n c) o) (hr : Sl (slR u32R) w All (.slice B n d) o) :
    Calls Try.prog 18 #[.slice A n c, .slice B n d] w (OneBool w true) := by
  have hln := hl.len
  obtain ⟨hnc, hcm⟩ := hl.cap
  obtain ⟨hnd, hdm⟩ := hr.cap
  have HL := hid hl; clear hl
  have HR := hid hr; clear hr
  have HN := hid hln; clear hln
  have hnn : ((n : Int) != (n : Int)) = false := by simp
  go_enter Try.func18, Try.ntmps18
  go_wp2
  clear hnn
  go_loopw [5] (fun i wr => ∃ k : Nat, k ≤ n ∧ i = .int .i64 k ∧ Hid (Ext w wr)) (fun i _ => n - (intOf i).toNat)
  case atStart => exact ⟨0, by omega, rfl, hid (Ext.refl _)⟩
  case round =>
    obtain ⟨k, hk, rfl, hx⟩ := hrel
    by_cases h1 : k < n
    · obtain ⟨C, hC⟩ : ∃ C, o[k]? = some C := ⟨_, List.getElem?_eq_getElem (by have := HN.out; omega)⟩
      obtain ⟨b, off, cA, cc, rfl, q1, hs1⟩ := Sl_ss_at (HL.out.ext hx.out) hC
      obtain ⟨b', off', dA, dc, rfl, q2, hs2⟩ := Sl_ss_at (HR.out.ext hx.out) hC
      have HS1 := hid hs1; clear hs1
      have HS2 := hid hs2; clear hs2
      have hk0 : (0 : Int) ≤ (k : Int) := by omega
      have hk1 : (k : Int) < (n : Int) := by omega
      clear hC
      go_wp2_with fail
      refine wp_region_held_drew (S := (fun w' => w'.cell? ⟨b, off + k, none⟩ = some (.slice cA C.length cc) ∧ w'.cell? ⟨b', off' + k, none⟩ = some (.slice dA C.length dc))) (by kernel_rfl) ⟨q1, q2⟩ (fun hSR0 => ?_)
      refine wpAnyH_takeL (i := 0) (v := ?Rv0) rfl (by kernel_rfl) (by kernel_rfl) (by kernel_rfl) (fun _ _ _ h => h) (Or.inl ⟨by rfl, ?Ry0⟩) (by assumption) ?Rr0
      case Ry0 => first | (intro w hSw; (try dsimp only at hSw); go_simp; done) | (intro w hSw; (try dsimp only at hSw); go_simp; with_reducible rfl)
      case' Rr0 => try simp only [Act.put, List.setIfInBounds_toArray, List.set_cons_zero, List.set_cons_succ]
      refine wpAnyH_takeL (i := 1) (v := ?Rv1) rfl (by kernel_rfl) (by kernel_rfl) (by kernel_rfl) (fun _ _ _ h => h) (Or.inl ⟨by rfl, ?Ry1⟩) (by assumption) ?Rr1
      case Ry1 => first | (intro w hSw; (try dsimp only at hSw); go_simp; done) | (intro w hSw; (try dsimp only at hSw); go_simp; with_reducible rfl)
      case' Rr1 => try simp only [Act.put, List.setIfInBounds_toArray, List.set_cons_zero, List.set_cons_succ]
      refine wpAnyH_takeL (i := 2) (v := ?Rv2) rfl (by kernel_rfl) (by kernel_rfl) (by kernel_rfl) (fun _ _ _ h => h) (Or.inl ⟨by rfl, ?Ry2⟩) (by assumption) ?Rr2
      case Ry2 => first | (intro w hSw; (try dsimp only at hSw); go_simp; done) | (intro w hSw; (try dsimp only at hSw); go_simp; with_reducible rfl)
      case' Rr2 => try simp only [Act.put, List.setIfInBounds_toArray, List.set_cons_zero, List.set_cons_succ]
      refine wpAnyH_takeL (i := 3) (v := ?Rv3) rfl (by kernel_rfl) (by kernel_rfl) (by kernel_rfl) (fun _ _ _ h => h) (Or.inl ⟨by rfl, ?Ry3⟩) (by assumption) ?Rr3
      case Ry3 => first | (intro w hSw; (try dsimp only at hSw); go_simp; done) | (intro w hSw; (try dsimp only at hSw); go_simp; with_reducible rfl)
      case' Rr3 => try simp only [Act.put, List.setIfInBounds_toArray, List.set_cons_zero, List.set_cons_succ]
      refine wpAnyH_takeL (i := 4) (v := ?Rv4) rfl (by kernel_rfl) (by kernel_rfl) (by kernel_rfl) (fun _ _ _ h => h) (Or.inl ⟨by rfl, ?Ry4⟩) (by assumption) ?Rr4
      case Ry4 => first | (intro w hSw; (try dsimp only at hSw); go_simp; done) | (intro w hSw; (try dsimp only at hSw); go_simp; with_reducible rfl)
      case' Rr4 => try simp only [Act.put, List.setIfInBounds_toArray, List.set_cons_zero, List.set_cons_succ]
      refine wpAnyH_takeL (i := 5) (v := ?Rv5) rfl (by kernel_rfl) (by kernel_rfl) (by kernel_rfl) (fun _ _ _ h => h) (Or.inl ⟨by rfl, ?Ry5⟩) (by assumption) ?Rr5
      case Ry5 => first | (intro w hSw; (try dsimp only at hSw); go_simp; done) | (intro w hSw; (try dsimp only at hSw); go_simp; with_reducible rfl)
      case' Rr5 => try simp only [Act.put, List.setIfInBounds_toArray, List.set_cons_zero, List.set_cons_succ]
      refine wpAnyH_takeL (i := 6) (v := ?Rv6) rfl (by kernel_rfl) (by kernel_rfl) (by kernel_rfl) (fun _ _ _ h => h) (Or.inl ⟨by rfl, ?Ry6⟩) (by assumption) ?Rr6
      case Ry6 => first | (intro w hSw; (try dsimp only at hSw); go_simp; done) | (intro w hSw; (try dsimp only at hSw); go_simp; with_reducible rfl)
      case' Rr6 => try simp only [Act.put, List.setIfInBounds_toArray, List.set_cons_zero, List.set_cons_succ]
      refine wpAnyH_takeL (i := 7) (v := ?Rv7) rfl (by kernel_rfl) (by kernel_rfl) (by kernel_rfl) (fun _ _ _ h => h) (Or.inl ⟨by rfl, ?Ry7⟩) (by assumption) ?Rr7
      case Ry7 => first | (intro w hSw; (try dsimp only at hSw); go_simp; done) | (intro w hSw; (try dsimp only at hSw); go_simp; with_reducible rfl)
      case' Rr7 => try simp only [Act.put, List.setIfInBounds_toArray, List.set_cons_zero, List.set_cons_succ]
      refine wpAnyH_ready (rs := [8]) (by kernel_rfl) (by simp) ?_
      refine AllReadyH.consL rfl (fun K hK => ?_) AllReadyH.nil
      go_simp
      go_at_call 14
      refine (words_any _ _ (Ext.refl _) cA dA C.length C.length cc dc C C (HS1.out.ext ((Ext.refl _).drew)) (HS2.out.ext ((Ext.refl _).drew))).mono ?_
      rintro e w6 ⟨rfl, hx6⟩
      have hd : decide (C = C) = true := by simp
      rw [hd]
      have HX6 := hid hx6.drew_left
      clear hx6 hd
      refine hK.out _ _ ⟨HX6.out.cell q1, HX6.out.cell q2⟩ (fun hSR1 => ?_)
      clear hK K
      try simp only [Act.put, List.setIfInBounds_toArray, List.set_cons_zero, List.set_cons_succ]
      refine wpAnyH_takeL (i := 9) (v := ?Rv9) rfl (by kernel_rfl) (by kernel_rfl) (by kernel_rfl) (fun _ _ _ h => h) (Or.inl ⟨by rfl, ?Ry9⟩) (by assumption) ?Rr9
      case Ry9 => first | (intro w hSw; (try dsimp only at hSw); go_simp; done) | (intro w hSw; (try dsimp only at hSw); go_simp; with_reducible rfl)
      case' Rr9 => try simp only [Act.put, List.setIfInBounds_toArray, List.set_cons_zero, List.set_cons_succ]
      refine wpAnyH_done (by kernel_rfl) ?_ _
      go_wp2
      first
        | go_roundw
        | refine ⟨?rel, ?measure⟩
      case rel => exact ⟨k + 1, by omega, by go_num, hid (hx.out.trans HX6.out)⟩
      case measure => simp [intOf]; omega
    · go_wp2
      go_ret
      exact ⟨rfl, hx.out⟩

set_option maxRecDepth 100000 in
set_option maxHeartbeats 4000000 in
theorem orders_any (w : World) (A : Option Addr) (n c : Nat) (l : List Fn18) (hl : Sl fnR w All (.slice A n c) l) :
    Calls Try.prog 4 #[.slice A n c] w (OneBool w true) := by
  have HL := hid hl; clear hl
  obtain ⟨B, hB⟩ : ∃ B : Nat → Nat → Bool, ∀ a b, B a b = true ↔ Reach l a b := ⟨fun a b => @decide (Reach l a b) (Classical.propDecidable _), fun a b => @decide_eq_true_iff _ (Classical.propDecidable _)⟩
  have HB := hid hB; clear hB
  go_enter Try.func4, Try.ntmps4
  go_wp2_with fail
  refine (few_any w A n c l HL.out).mono ?_
  rintro e w' ⟨⟨b, rfl, hb⟩, rfl⟩
  cases b
  case' false =>
    clear hb
    go_wp2_with fail
    refine (example_any _).mono ?_
    rintro e w1 ⟨rfl, hx⟩
    have HX := hid hx; clear hx
    go_wp2
    go_ret
    exact ⟨rfl, HX.out⟩
  have hn10 : n ≤ 10 := (hb rfl).1
  have HB12 := hid (hb rfl).2
  clear hb
  have HC := hid (show ∀ f ∈ l, f.calls.length ≤ 1000 from fun f hf => by have := (HB12.out f hf).2; omega)
  go_wp2_with fail
  refine (from_any w A n c l HL.out (by omega)).mono ?_
  rintro e w1 ⟨hx1, fA, fc, rfl, hs1⟩
  have HX1 := hid hx1
  have HS1 := hid hs1
  have hln : l.length = n := by rw [HL.out.len]
  rw [hln] at HS1 ⊢
  clear hx1 hs1 hln
  obtain ⟨O, hO⟩ : ∃ O, orderOf (entriesOf l) B = O := ⟨_, rfl⟩
  have HO := hid hO; clear hO
  go_wp2_with fail
  refine (order_any w1 fA n fc l HS1.out (by omega) HC.out B HB.out).mono ?_
  rintro e w2 ⟨hx2, oA, oc, rfl, hs2⟩
  rw [HO.out] at hs2 ⊢
  have HX2 := hid (HX1.out.trans hx2)
  have HS2 := hid hs2
  clear hx2 hs2
  go_wp2_with fail
  refine (rorder_any w2 A n c l (HL.out.ext HX2.out) (by omega) HC.out B HB.out).mono ?_
  rintro e w3 ⟨hx3, pA, pc, rfl, hs3⟩
  rw [HO.out] at hs3 ⊢
  have HX3 := hid (HX2.out.trans hx3)
  have HS3 := hid hs3
  have HS4 := hid (HS2.out.ext hx3)
  clear hx3 hs3
  go_wp2_with fail
  refine (sameorder_any w3 oA pA O.length oc pc O HS4.out HS3.out).mono ?_
  rintro e w4 ⟨rfl, hx4⟩
  have HX4 := hid (HX3.out.trans hx4)
  clear hx4
  go_wp2_with fail
  refine (example_any _).mono ?_
  rintro e w9 ⟨rfl, hx9⟩
  have HX9 := hid (HX4.out.trans hx9)
  clear hx9
  go_wp2
  go_ret
  exact ⟨rfl, HX9.out⟩
end Go.Proofs.Ytnlmhnbogleijaa
