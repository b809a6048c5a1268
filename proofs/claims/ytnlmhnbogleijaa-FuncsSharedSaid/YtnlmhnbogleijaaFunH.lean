/- The reference: Leads, component, ready. -/
import Derived.Test.YtnlmhnbogleijaaFunG
import Derived.Test.YtnlmhnbogleijaaInsS
namespace Go.Proofs.Ytnlmhnbogleijaa
open Go.RowKit Go.Deco
set_option linter.unusedSimpArgs false
set_option linter.unusedVariables false

/-- Leads under way: the list so far, i of them looked through. -/
structure LeadInv (l : List Fn18) (a : Nat) (L : List Nat) (i : Nat) : Prop where
  nodup : L.Nodup
  has : a ∈ L
  reach : ∀ x ∈ L, Reach l a x
  done : ∀ j, j < i → ∀ x, L[j]? = some x → ∀ c ∈ calleesOf l x, c ∈ L
structure LeadIn (l : List Fn18) (a : Nat) (L : List Nat) (i k : Nat) (C : List Nat) : Prop where
  inv : LeadInv l a L i
  have_ : ∀ j, j < k → ∀ x, C[j]? = some x → x ∈ L
theorem LeadInv.start (l : List Fn18) (a : Nat) : LeadInv l a [a] 0 := ⟨by simp, by simp, fun x hx => by simp at hx; subst hx; exact .refl _, fun j hj => by omega⟩
theorem LeadInv.len {l : List Fn18} {a : Nat} {L : List Nat} {i : Nat} (h : LeadInv l a L i) : L.length ≤ (entriesOf l).length + 1 := by
  have := nodup_sub_len (L := L) (E := a :: entriesOf l) h.nodup fun x hx => by
    have hr := h.reach x hx
    cases hr with
    | refl => simp
    | step _ hc => simp [callees_entry hc]
  simpa using this
theorem LeadIn.old {l : List Fn18} {a : Nat} {L : List Nat} {i k : Nat} {C : List Nat} {y : Nat} (h : LeadIn l a L i k C) (hy : C[k]? = some y) (hL : y ∈ L) : LeadIn l a L i (k + 1) C := by
  refine ⟨h.inv, fun j hj x hx => ?_⟩
  rcases Nat.lt_or_ge j k with h1 | h1
  · exact h.have_ j h1 x hx
  · obtain rfl : j = k := by omega
    rw [hy] at hx
    cases hx
    exact hL
theorem LeadIn.new {l : List Fn18} {a : Nat} {L C : List Nat} {i k x : Nat} {y : Nat} (h : LeadIn l a L i k C) (hC : calleesOf l x = C) (hi : L[i]? = some x) (hy : C[k]? = some y) (hL : y ∉ L) : LeadIn l a (L ++ [y]) i (k + 1) C := by
  subst hC
  have hil := (List.getElem?_eq_some_iff.1 hi).1
  refine ⟨⟨?_, by simp [h.inv.has], fun z hz => ?_, fun j hj z hz c hc => ?_⟩, fun j hj z hz => ?_⟩
  · rw [List.nodup_append]
    exact ⟨h.inv.nodup, by simp, fun p hp q hq e => by simp at hq; subst hq; subst e; exact hL hp⟩
  · rcases List.mem_append.1 hz with hz | hz
    · exact h.inv.reach z hz
    · simp at hz
      subst hz
      exact .step (h.inv.reach x (List.mem_of_getElem? hi)) (List.mem_of_getElem? hy)
  · rw [List.getElem?_append_left (by omega)] at hz
    exact List.mem_append.2 (.inl (h.inv.done j hj z hz c hc))
  · rcases Nat.lt_or_ge j k with h1 | h1
    · exact List.mem_append.2 (.inl (h.have_ j h1 z hz))
    · obtain rfl : j = k := by omega
      rw [hy] at hz
      cases hz
      simp
theorem LeadIn.next {l : List Fn18} {a : Nat} {L : List Nat} {i x k : Nat} (h : LeadIn l a L i k (calleesOf l x)) (hi : L[i]? = some x) (hk : (calleesOf l x).length ≤ k) : LeadInv l a L (i + 1) := by
  refine ⟨h.inv.nodup, h.inv.has, h.inv.reach, fun j hj z hz c hc => ?_⟩
  rcases Nat.lt_or_ge j i with h1 | h1
  · exact h.inv.done j h1 z hz c hc
  · obtain rfl : j = i := by omega
    rw [hi] at hz
    cases hz
    obtain ⟨q, hq, rfl⟩ := List.getElem_of_mem hc
    exact h.have_ q (by omega) _ (List.getElem?_eq_getElem hq)
theorem LeadInv.all {l : List Fn18} {a : Nat} {L : List Nat} {i : Nat} (h : LeadInv l a L i) (hi : L.length ≤ i) (x : Nat) : x ∈ L ↔ Reach l a x := by
  refine ⟨h.reach x, fun hr => hr.closed (S := fun y => y ∈ L) h.has fun y hy c hc => ?_⟩
  obtain ⟨j, hj, rfl⟩ := List.getElem_of_mem hy
  exact h.done j (by omega) _ (List.getElem?_eq_getElem hj) c hc

def LeadsPost (w : World) (l : List Fn18) (a : Nat) (e : Ending) (w' : World) : Prop :=
  Ext w w' ∧ ∃ A c L, e = .returned (.slice A L.length c) ∧ Sl u32R w' All (.slice A L.length c) L ∧ (∀ x, x ∈ L ↔ Reach l a x) ∧ L.length ≤ 1001
def sliceLen : Value → Nat
  | .slice _ n _ => n
  | _ => 0

set_option maxRecDepth 100000 in
set_option maxHeartbeats 2000000 in
theorem leads_any (w : World) (A : Option Addr) (n c : Nat) (l : List Fn18) (hl : Sl fnR w All (.slice A n c) l) (hn : n ≤ 1000) (hc : ∀ f ∈ l, f.calls.length ≤ 1000) (a : Nat) (ha : a < 4294967296) :
    Calls Try.prog 16 #[.slice A n c, .int .u32 a] w (LeadsPost w l a) := by
  obtain ⟨i0, hi, hz0, hz1, hz2⟩ := info_parts info_w32
  have HI := hid hi; clear hi
  have HZ0 := hid hz0; clear hz0
  have HZ1 := hid hz1; clear hz1
  have HZ2 := hid hz2; clear hz2
  have hel : (entriesOf l).length ≤ 1000 := by
    have := asc_len (l.map (·.entry))
    rw [List.length_map] at this
    rw [entriesOf]
    have := hl.len
    omega
  obtain ⟨EN, hEN⟩ : ∃ EN, (entriesOf l).length = EN := ⟨_, rfl⟩
  rw [hEN] at hel
  have HEN := hid hEN; clear hEN
  have HS := hid hl; clear hl
  have HC := hid hc; clear hc
  have ho1 : OwnS u32R (w.alloc (.cells #[.int .u32 a] 32)) w.heap.size 32 All (.slice (some ⟨w.heap.size, 0, none⟩) 1 1) [a] :=
    ⟨[.int .u32 a], ⟨rfl, .inr ⟨w.heap.size, 1, #[.int .u32 a], rfl, Nat.le_refl _, heap_alloc_new w _, by simp, by simp [maxLen], rfl, rfl⟩⟩, chunks_num.2 ⟨rfl, by simpa using ha⟩⟩
  have HO1 := hid ho1; clear ho1
  have HX1 := hid ((Ext.refl w).alloc (.cells #[.int .u32 a] 32))
  go_enter Try.func16, Try.ntmps16
  go_wp2
  go_loopw [5, 6] (fun v s6 wr => ∃ (i : Nat) (A' : Option Addr) (c' : Nat) (L : List Nat), i ≤ L.length ∧ s6 = .int .i64 i ∧ v = .slice A' L.length c' ∧ Hid (OwnS u32R wr w.heap.size 32 All (.slice A' L.length c') L) ∧ Hid (Ext w wr) ∧ Hid (LeadInv l a L i)) (fun _ s6 _ => 2000 - (intOf s6).toNat)
  case atStart => exact ⟨0, _, 1, [a], by simp, rfl, rfl, HO1, HX1, hid (LeadInv.start l a)⟩
  case round =>
    obtain ⟨i, A', c', L, hiL, rfl, rfl, ho, hx, hinv⟩ := hrel
    obtain ⟨wo, hwo⟩ : ∃ wo : World, wo = wr := ⟨_, rfl⟩
    subst hwo
    have hLl := hinv.out.len
    rw [HEN.out] at hLl
    obtain ⟨N, hN⟩ : ∃ N, L.length = N := ⟨_, rfl⟩
    rw [hN] at hiL hLl ho ⊢
    have HN := hid hN; clear hN
    have hcapc : N ≤ c' ∧ c' ≤ 9223372036854775807 := by
      obtain ⟨_, _, hv, h3, h4⟩ := ho.out.form
      cases hv
      have := HN.out
      exact ⟨by omega, h4⟩
    have hc1 := hcapc.1
    have hc2 := hcapc.2
    clear hcapc
    by_cases h1 : i < N
    · obtain ⟨x, hxi⟩ : ∃ x, L[i]? = some x := ⟨_, List.getElem?_eq_getElem (by have := HN.out; omega)⟩
      obtain ⟨b, off, hA1, cx, hx32⟩ := ho.out.sl.num_at hxi
      have hA2 := ho.out.at0 (by omega)
      subst hA1
      have HXI := hid hxi; clear hxi hA2
      go_wp2_with fail
      refine (rcalleesS_any wo A n c l (HS.out.ext hx.out) HC.out x).mono ?_
      rintro e w2 ⟨hx2, cA, cc, rfl, hs2⟩
      have HX2 := hid (hx.out.trans hx2)
      have HO2 := hid (ho.out.ext hx2)
      have hccap := hs2.cap
      have hcc1 := hccap.1
      have hcc2 := hccap.2
      obtain ⟨C, hC⟩ : ∃ C, calleesOf l x = C := ⟨_, rfl⟩
      rw [hC] at hs2 hcc1 ⊢
      have HCE := hid hC; clear hC
      obtain ⟨M, hM⟩ : ∃ M, C.length = M := ⟨_, rfl⟩
      rw [hM] at hs2 hcc1 ⊢
      have HM := hid hM; clear hM
      have HS2 := hid (hs2.mono (S' := fun b => wo.heap.size ≤ b ∧ b < w2.heap.size) fun b hb h => ⟨hb, h.lt⟩)
      have HOB := hid ho.out.block
      clear hx2 hs2 hccap cx
      have HN2 := HN
      go_wp2
      go_loopw [5, 8] (fun v s8 wi => ∃ (k : Nat) (A1 : Option Addr) (c1 : Nat) (L1 : List Nat), k ≤ M ∧ s8 = .int .i64 k ∧ v = .slice A1 L1.length c1 ∧ Hid (OwnS u32R wi w.heap.size 32 All (.slice A1 L1.length c1) L1) ∧ Hid (Ext w wi) ∧ Hid (LeadIn l a L1 i k C) ∧ Hid (L1[i]? = some x) ∧ Hid (Sl u32R wi (fun b => wo.heap.size ≤ b ∧ b < w2.heap.size) (.slice cA M cc) C) ∧ Hid (w2.heap.size ≤ wi.heap.size) ∧ Hid (∀ g, v.ownBlock = some g → g < wo.heap.size ∨ w2.heap.size ≤ g)) (fun _ s8 _ => M - (intOf s8).toNat)
      case atStart => exact ⟨0, _, c', L, by omega, rfl, by rw [HN.out], hid (by rw [HN.out]; exact HO2.out), HX2, hid ⟨hinv.out, fun j hj => by omega⟩, HXI, HS2, hid (Nat.le_refl _), hid fun g hg => .inl (HOB.out g hg).2⟩
      case round =>
        obtain ⟨k, A1, c1, L1, hk, rfl, rfl, ho3, hx3, hin, hix, hsc, HWR, hbl⟩ := hrel
        have hL1l := hin.out.inv.len
        rw [HEN.out] at hL1l
        have hiL1 := (List.getElem?_eq_some_iff.1 hix.out).1
        by_cases h2 : k < M
        · obtain ⟨y, hy⟩ : ∃ y, C[k]? = some y := ⟨_, List.getElem?_eq_getElem (by have := HM.out; omega)⟩
          obtain ⟨b2, off2, rfl, cy, hy32⟩ := hsc.out.num_at hy
          have HYK := hid hy; clear hy
          go_wp2_with fail
          refine (has_any wr All A1 L1.length c1 L1 ho3.out.sl y).mono ?_
          rintro e w4 ⟨rfl, rfl⟩
          obtain ⟨r, hr⟩ : ∃ r, L1.contains y = r := ⟨_, rfl⟩
          rw [hr]
          have HR := hid hr; clear hr
          cases r with
          | true =>
            clear cy
            go_wp2
            first
              | go_roundw
              | refine ⟨?rel, ?measure⟩
            case rel => exact ⟨k + 1, A1, c1, L1, by omega, by go_num, rfl, ho3, hx3, hid (hin.out.old HYK.out (by simpa using HR.out)), hix, hsc, HWR, hbl⟩
            case measure => simp [intOf]; omega
          | false =>
            have HXE := hid ((Ext.refl wr).alloc (Obj.cells #[.int .u32 y] 32))
            have hw2r : w2.heap.size ≤ wr.heap.size := HWR.out
            go_wp2_with (first
              | (at_builtin; refine wpList_app1l rfl (.tmp 36) (.tmp 41) 29 rfl w.heap.size 32 i0 _ 1 4 Try.underlying29 HI.out HZ0.out HZ1.out HZ2.out rfl u32R rfl (.slice A1 L1.length c1) L1 rfl ho3.out wr.heap.size rfl y rfl ⟨rfl, hy32⟩ (by omega) (by omega) (by exact hx3.out.size) ?_; intro A5 c5 w5 hown5 hg5 hl5; have HO5 := hid hown5; have HX5 := hid ((hx3.out.alloc _).grown hg5 (fun k hk => (ho3.out.block _ hk).1)); have HG5 := hid hg5; have HL5 := hid hl5; clear hown5 hg5 hl5)
              | fail)
            first
              | go_roundw
              | refine ⟨?rel, ?measure⟩
            case rel =>
              refine ⟨k + 1, A5, c5, L1 ++ [y], by omega, by go_num, by simp, hid (by simpa using HO5.out), HX5, hid (hin.out.new HCE.out hix.out HYK.out (by simpa using HR.out)), hid (by rw [List.getElem?_append_left hiL1]; exact hix.out), hid ((hsc.out.ext HXE.out).keep fun b hb hc => HG5.out.block b hc.lt fun e => ?_), hid ?_, hid fun g hg => ?_⟩
              · rcases hbl.out b e.symm with h3 | h3
                · have := hb.1
                  omega
                · have := hb.2
                  omega
              · have := HG5.out.size
                have := HXE.out.size
                omega
              · rcases HL5.out g hg with h3 | h3
                · exact hbl.out g h3
                · exact .inr (by omega)
            case measure => simp [intOf]; omega
        · obtain rfl : k = M := by omega
          have hnext := LeadIn.next (by rw [HCE.out]; exact hin.out) hix.out (by rw [HCE.out, HM.out]; exact Nat.le_refl _)
          have HNX := hid hnext; clear hnext
          go_wp2
          first
            | go_roundw
            | refine ⟨?rel, ?measure⟩
          case rel => exact ⟨i + 1, A1, c1, L1, by omega, by go_num, rfl, ho3, hx3, HNX⟩
          case measure => simp [intOf]; omega
    · obtain rfl : i = N := by omega
      go_wp2
      go_ret
      exact ⟨hx.out, A', c', L, by rw [HN.out]; rfl, by rw [HN.out]; exact ho.out.sl, hinv.out.all (by rw [HN.out]; exact Nat.le_refl _), by have := HN.out; omega⟩

theorem comp_ref (l : List Fn18) (B : Nat → Nat → Bool) (hB : ∀ a b, B a b = true ↔ Reach l a b) {a : Nat} (ha : a ∈ entriesOf l) {L : List Nat} (hL : ∀ x, x ∈ L ↔ Reach l a x) : asc (L.filter fun x => B x a) = compOf (entriesOf l) B a := by
  have hp : (compOf (entriesOf l) B a).Pairwise (· < ·) := (asc_pw _).filter _
  refine (asc_of hp fun x => ?_).symm
  rw [comp_mem, List.mem_filter, hL]
  constructor
  · rintro ⟨h1, h2, h3⟩
    exact ⟨(hB a x).1 h2, h3⟩
  · rintro ⟨h1, h2⟩
    exact ⟨h1.entry ha, (hB a x).2 h1, h2⟩

set_option maxRecDepth 100000 in
set_option maxHeartbeats 2000000 in
theorem component_any (w : World) (A : Option Addr) (n c : Nat) (l : List Fn18) (hl : Sl fnR w All (.slice A n c) l) (hn : n ≤ 1000) (hc : ∀ f ∈ l, f.calls.length ≤ 1000) (B : Nat → Nat → Bool) (hB : ∀ a b, B a b = true ↔ Reach l a b) (a : Nat) (ha : a < 4294967296) (hae : a ∈ entriesOf l) :
    Calls Try.prog 33 #[.slice A n c, .int .u32 a] w (ListIn (fun b => w.heap.size ≤ b) w (compOf (entriesOf l) B a)) := by
  obtain ⟨D, hD⟩ : ∃ D, compOf (entriesOf l) B a = D := ⟨_, rfl⟩
  rw [hD]
  have hcr := fun L hL => comp_ref l B hB hae (L := L) hL
  rw [hD] at hcr
  have HCR := hid hcr; clear hcr hD hae
  have HS := hid hl; clear hl
  have HC := hid hc; clear hc
  have HB := hid hB; clear hB
  go_enter Try.func33, Try.ntmps33
  go_wp2_with fail
  refine (leads_any w A n c l HS.out hn HC.out a ha).mono ?_
  rintro e w2 ⟨hx2, tA, tc, L, rfl, hs2, hL, hLl⟩
  have HX2 := hid hx2
  have hcap := hs2.cap
  have hcap1 := hcap.1
  have hcap2 := hcap.2
  have HDE := hid (HCR.out L hL)
  obtain ⟨N, hN⟩ : ∃ N, L.length = N := ⟨_, rfl⟩
  rw [hN] at hs2 hcap1 hLl ⊢
  have HS2 := hid hs2
  have HN := hid hN
  clear hx2 hs2 hcap hN hL
  go_wp2
  go_loopw [5, 7] (fun v i wr => ∃ (j : Nat) (A' : Option Addr) (c' : Nat) (M : List Nat), j ≤ N ∧ i = .int .i64 j ∧ v = .slice A' M.length c' ∧ Hid (Sl u32R wr (fun b => w.heap.size ≤ b) (.slice A' M.length c') M) ∧ Hid (Ext w2 wr) ∧ Hid (M = asc ((L.take j).filter fun x => B x a))) (fun _ i _ => N - (intOf i).toNat)
  case atStart => exact ⟨0, none, 0, [], by omega, rfl, rfl, hid Sl.nil, hid (Ext.refl _), hid (by simp [asc])⟩
  case round =>
    obtain ⟨j, A', c', M, hj, rfl, rfl, hs, hx, hM⟩ := hrel
    by_cases h1 : j < N
    · obtain ⟨x, hx'⟩ : ∃ x, L[j]? = some x := ⟨_, List.getElem?_eq_getElem (by have := HN.out; omega)⟩
      obtain ⟨b2, off2, rfl, cx, hx32⟩ := HS2.out.num_at hx'
      have CX := hid cx
      have cx := hx.out.cell cx
      have HXJ := hid hx'; clear hx'
      have hMl : M.length ≤ 2000 := by
        have h2 := asc_len ((L.take j).filter fun x => B x a)
        have h3 := List.length_filter_le (fun x => B x a) (L.take j)
        rw [List.length_take] at h3
        rw [hM.out]
        omega
      have hsn : ((L.take (j + 1)).filter fun x => B x a) = ((L.take j).filter fun x => B x a) ++ (if B x a then [x] else []) := by
        rw [take_snoc' HXJ.out, List.filter_append, List.filter_cons]
        cases B x a <;> rfl
      have HSN := hid hsn; clear hsn
      go_wp2_with fail
      refine (leads_any wr A n c l ((HS.out.ext HX2.out).ext hx.out) hn HC.out x hx32).mono ?_
      rintro e w3 ⟨hx3, A3, c3, L3, rfl, hs3, hL3, -⟩
      have HX3 := hid (hx.out.trans hx3)
      have HS3 := hid hs3
      have HSM := hid (hs.out.ext hx3)
      have hr3 : L3.contains a = B x a := by
        rw [Bool.eq_iff_iff, List.contains_iff_mem, hL3, HB.out x a]
      have HR3 := hid hr3
      clear hx3 hs3 cx hL3 hr3
      have cx := HX3.out.cell CX.out
      go_wp2_with fail
      refine (has_any w3 All A3 L3.length c3 L3 HS3.out a).mono ?_
      rintro e w4 ⟨rfl, rfl⟩
      rw [HR3.out]
      obtain ⟨r, hr⟩ : ∃ r, B x a = r := ⟨_, rfl⟩
      rw [hr] at HSN ⊢
      clear hr
      cases r with
      | false =>
        go_wp2
        first
          | go_roundw
          | refine ⟨?rel, ?measure⟩
        case rel => exact ⟨j + 1, A', c', M, by omega, by go_num, rfl, HSM, HX3, hid (by rw [HSN.out]; simpa using hM.out)⟩
        case measure => simp [intOf]; omega
      | true =>
        go_wp2_with fail
        refine (inserts_any (fun b => w.heap.size ≤ b) w3 w3 (Ext.refl _) (fun b hb => Nat.le_trans (HX2.out.trans HX3.out).size hb) A' M.length c' M HSM.out (by omega) x hx32).mono ?_
        rintro e w5 ⟨hx5, A1, c1', rfl, hs5⟩
        have HX5 := hid (HX3.out.trans hx5)
        have HS5 := hid hs5
        clear hx5 hs5
        go_wp2
        first
          | go_roundw
          | refine ⟨?rel, ?measure⟩
        case rel => exact ⟨j + 1, A1, c1', insOf M x, by omega, by go_num, rfl, HS5, HX5, hid (by rw [HSN.out, hM.out]; exact (asc_snoc _ _).symm)⟩
        case measure => simp [intOf]; omega
    · obtain rfl : j = N := by omega
      have e1 : L.take j = L := List.take_of_length_le (by have := HN.out; omega)
      have hML : M = D := by rw [hM.out, e1, HDE.out]
      subst hML
      go_wp2
      go_ret
      exact ⟨HX2.out.trans hx.out, A', c', rfl, hs.out⟩

def readyOf (l : List Fn18) (C M : List Nat) : Bool := C.all fun x => (calleesOf l x).all fun y => C.contains y || M.contains y
set_option maxRecDepth 100000 in
set_option maxHeartbeats 2000000 in
theorem ready_any (w : World) (A : Option Addr) (n c : Nat) (l : List Fn18) (hl : Sl fnR w All (.slice A n c) l) (hc : ∀ f ∈ l, f.calls.length ≤ 1000) (cA : Option Addr) (cc N : Nat) (C : List Nat) (hC : Sl u32R w All (.slice cA N cc) C) (mA : Option Addr) (mc K : Nat) (M : List Nat) (hM : Sl u32R w All (.slice mA K mc) M) :
    Calls Try.prog 34 #[.slice A n c, .slice cA N cc, .slice mA K mc] w (OneBool w (readyOf l C M)) := by
  obtain ⟨r, hr⟩ : ∃ r, readyOf l C M = r := ⟨_, rfl⟩
  rw [hr]
  have HR := hid hr; clear hr
  have hN := hC.len
  have hcap := hC.cap
  have hcap1 := hcap.1
  have hcap2 := hcap.2
  have HS := hid hl; clear hl
  have HC := hid hc; clear hc
  have HCS := hid hC; clear hC
  have HMS := hid hM; clear hM
  have HN := hid hN; clear hN hcap
  go_enter Try.func34, Try.ntmps34
  go_wp2
  go_loopw [7] (fun i wr => ∃ j : Nat, j ≤ N ∧ i = .int .i64 j ∧ Hid (Ext w wr) ∧ Hid (((C.take j).all fun x => (calleesOf l x).all fun y => C.contains y || M.contains y) = true)) (fun i _ => N - (intOf i).toNat)
  case atStart => exact ⟨0, by omega, rfl, hid (Ext.refl _), hid (by simp)⟩
  case round =>
    obtain ⟨j, hj, rfl, hx, hall⟩ := hrel
    by_cases h1 : j < N
    · obtain ⟨x, hx'⟩ : ∃ x, C[j]? = some x := ⟨_, List.getElem?_eq_getElem (by have := HN.out; omega)⟩
      obtain ⟨b2, off2, rfl, cx, hx32⟩ := HCS.out.num_at hx'
      have cx := hx.out.cell cx
      have HXJ := hid hx'; clear hx'
      go_wp2_with fail
      refine (rcallees_any wr A n c l (HS.out.ext hx.out) HC.out x).mono ?_
      rintro e w2 ⟨hx2, dA, dc, rfl, hs2⟩
      have HX2 := hid (hx.out.trans hx2)
      have hcap := hs2.cap
      have hcap3 := hcap.1
      have hcap4 := hcap.2
      obtain ⟨D, hD⟩ : ∃ D, calleesOf l x = D := ⟨_, rfl⟩
      rw [hD] at hs2 hcap3 ⊢
      have HDE := hid hD; clear hD
      obtain ⟨K2, hK2⟩ : ∃ K2, D.length = K2 := ⟨_, rfl⟩
      rw [hK2] at hs2 hcap3 ⊢
      have HS2 := hid hs2
      have HK2 := hid hK2
      clear hx2 hs2 hcap hK2 cx
      go_wp2
      go_loop [9] (fun i => ∃ k : Nat, k ≤ K2 ∧ i = .int .i64 k ∧ Hid (((D.take k).all fun y => C.contains y || M.contains y) = true)) (fun i => K2 - (intOf i).toNat)
      case atStart => exact ⟨0, by omega, rfl, hid (by simp)⟩
      case round =>
        obtain ⟨k, hk, rfl, hall2⟩ := hrel
        by_cases h2 : k < K2
        · obtain ⟨y, hy⟩ : ∃ y, D[k]? = some y := ⟨_, List.getElem?_eq_getElem (by have := HK2.out; omega)⟩
          obtain ⟨b3, off3, rfl, cy, hy32⟩ := HS2.out.num_at hy
          have HYK := hid hy; clear hy
          go_wp2_with fail
          refine (has_any w2 All _ N cc C (HCS.out.ext HX2.out) y).mono ?_
          rintro e w4 ⟨rfl, rfl⟩
          obtain ⟨p, hp⟩ : ∃ p, C.contains y = p := ⟨_, rfl⟩
          rw [hp]
          have HPP := hid hp; clear hp
          cases p with
          | true =>
            go_wp2
            first
              | go_round
              | refine ⟨?rel, ?measure⟩
            case rel => exact ⟨k + 1, by omega, by go_num, hid (by rw [take_snoc' HYK.out, List.all_append, hall2.out]; simp only [List.all_cons, List.all_nil, Bool.and_true, Bool.true_and]; rw [HPP.out]; rfl)⟩
            case measure => simp [intOf]; omega
          | false =>
            go_wp2_with fail
            refine (has_any w2 All mA K mc M (HMS.out.ext HX2.out) y).mono ?_
            rintro e w4 ⟨rfl, rfl⟩
            obtain ⟨q, hq⟩ : ∃ q, M.contains y = q := ⟨_, rfl⟩
            rw [hq]
            have HQQ := hid hq; clear hq
            cases q with
            | true =>
              go_wp2
              first
                | go_round
                | refine ⟨?rel, ?measure⟩
              case rel => exact ⟨k + 1, by omega, by go_num, hid (by rw [take_snoc' HYK.out, List.all_append, hall2.out]; simp only [List.all_cons, List.all_nil, Bool.and_true, Bool.true_and]; rw [HQQ.out]; cases C.contains y <;> rfl)⟩
              case measure => simp [intOf]; omega
            | false =>
              go_wp2
              go_ret
              refine ⟨ret_bool ?_, HX2.out⟩
              rw [← HR.out]
              symm
              cases hh : readyOf l C M with
              | false => rfl
              | true =>
                have h5 := List.all_eq_true.1 hh x (List.mem_of_getElem? HXJ.out)
                have h6 := List.all_eq_true.1 h5 y (by rw [HDE.out]; exact List.mem_of_getElem? HYK.out)
                rw [HPP.out, HQQ.out] at h6
                cases h6
        · obtain rfl : k = K2 := by omega
          have e1 : D.take k = D := List.take_of_length_le (by have := HK2.out; omega)
          have hall3 := hall2.out
          rw [e1] at hall3
          have HA3 := hid hall3
          clear hall3 e1
          go_wp2
          first
            | go_roundw
            | refine ⟨?rel, ?measure⟩
          case rel => exact ⟨j + 1, by omega, by go_num, HX2, hid (by rw [take_snoc' HXJ.out, List.all_append, hall.out]; simp only [List.all_cons, List.all_nil, Bool.and_true, Bool.true_and]; rw [HDE.out]; exact HA3.out)⟩
          case measure => simp [intOf]; omega
    · obtain rfl : j = N := by omega
      have e1 : C.take j = C := List.take_of_length_le (by have := HN.out; omega)
      have hall3 := hall.out
      rw [e1] at hall3
      go_wp2
      go_ret
      exact ⟨ret_bool (by rw [← HR.out]; exact hall3.symm), hx.out⟩
end Go.Proofs.Ytnlmhnbogleijaa
