/- The reference's memory: Fetch, Dump, Load. -/
import Derived.Test.YtjfdbfbdkjfgpaaR9C
import Derived.Test.YtjfdbfbdkjfgpaaR9E
import Derived.Test.YtjfdbfbdkjfgpaaMemF
namespace Go.Proofs.Ytjfdbfbdkjfgpaa
open Go.RowKit Go.Deco
set_option linter.unusedSimpArgs false
set_option linter.unusedVariables false

/-- The reference's bytes are the memory's. -/
theorem preOf_in {l : List Sec} (h0 : secCheck l = 0) {M : Nat → Option Nat} {a d : Nat} {r : Reg} (hf : findReg (regsOf l) a = some r) (hd : a + d < r.from_ + r.data.length) : preOf (regsOf l) M (a + d) = byteAt r M (a + d) := by
  obtain ⟨i, hi, ha⟩ := findReg_index hf
  have h1 := (has_iff r a).1 ha
  have hf2 := findReg_of (disj_regs h0) hi (a := a + d) ((has_iff r _).2 ⟨by omega, hd⟩)
  rw [preOf, iniOf, hf2]
  rfl
theorem bytesOf_eq {l : List Sec} (h0 : secCheck l = 0) {M : Nat → Option Nat} {a q : Nat} {r : Reg} (hf : findReg (regsOf l) a = some r) : bytesOf (preOf (regsOf l) M) a (min q (roomOf (regsOf l) a)) = presentOf r M a q := by
  have hb : r.from_ + r.data.length ≤ 4294967295 := regsOf_bound h0 r (List.mem_of_find?_eq_some hf)
  have e : roomOf (regsOf l) a = r.from_ + r.data.length - a := by rw [roomOf, hf]
  rw [e, bytesOf, presentOf]
  apply List.map_congr_left
  intro k hk
  have hk : k < min q (r.from_ + r.data.length - a) := by simpa using hk
  rw [Nat.mod_eq_of_lt (by omega), preOf_in h0 hf (by omega)]
theorem room_le {l : List Sec} (h0 : secCheck l = 0) (a : Nat) : roomOf (regsOf l) a ≤ 65536 := by
  unfold roomOf
  cases hf : findReg (regsOf l) a with
  | none => simp
  | some r =>
    simp only
    have hm : r ∈ regsOf l := List.mem_of_find?_eq_some hf
    have hh := findReg_has hf
    rw [regsOf, List.mem_append] at hm
    rcases hm with hm | hm
    · obtain ⟨s, hs, rfl⟩ := List.mem_map.1 hm
      obtain ⟨k, hk, rfl⟩ := List.getElem_of_mem hs
      have h1 := (secCheck_zero (List.getElem?_eq_getElem hk) h0).1
      have h2 : (regOf l[k]).data.length ≤ 65536 := h1
      omega
    · simp at hm
      subst hm
      have h1 : stackReg.data.length = 4096 := List.length_replicate
      omega

set_option maxRecDepth 100000 in
set_option maxHeartbeats 1000000 in
theorem fetch9_any (wo w : World) (ho : Ext wo w) (LA : Option Addr) (n c : Nat) (l : List Sec) (hl : Sl secR wo All (.slice LA n c) l) (h0 : secCheck l = 0) (CA : Option Addr) (cm cd : Nat) (cs : List (Nat × Nat)) (hc : Sl cellR wo All (.slice CA cm cd) cs)
    (hlt : ∀ a, preOf (regsOf l) (lookIn cs) a < 256) (a : Nat) (ha : a < 4294967296) :
    Calls Try.prog 22 #[.agg #[.bool true, .slice LA n c, .slice CA cm cd], .int .u32 a] w (BytesPost w (fetchOf (regsOf l) (lookIn cs) a)) := by
  have hln := hl.len
  have HLN := hid hln; clear hln
  have HS := hid hl; clear hl
  have HC := hid hc; clear hc
  have HLT := hid hlt; clear hlt
  have HO := hid ho; clear ho
  have H0 := hid h0; clear h0
  obtain ⟨X, hX⟩ : ∃ X, fetchOf (regsOf l) (lookIn cs) a = X := ⟨_, rfl⟩
  rw [hX]
  have HX := hid hX; clear hX
  obtain ⟨W0, hW0⟩ : ∃ W0, w.alloc (Obj.cells #[.bool true, .slice LA n c, .slice CA cm cd] 45) = W0 := ⟨_, rfl⟩
  have hE : Ext w W0 := by rw [← hW0]; exact (Ext.refl w).alloc _
  have b0 : W0.cell? ⟨w.heap.size, 0, none⟩ = some (.bool true) := by rw [← hW0]; simp
  have b1 : W0.cell? ⟨w.heap.size, 1, none⟩ = some (.slice LA n c) := by rw [← hW0]; simp
  have b2 : W0.cell? ⟨w.heap.size, 2, none⟩ = some (.slice CA cm cd) := by rw [← hW0]; simp
  have HE := hid hE; clear hE
  have HB := hid (And.intro b0 (And.intro b1 b2))
  go_enter Try.func22, Try.ntmps22
  go_wp2_with fail
  clear hW0 b0 b1 b2
  refine (region9_any wo _ (HO.out.trans HE.out) LA n c l HS.out H0.out (.slice CA cm cd) a ha).mono ?_
  rintro e w1 ⟨hx1, hreg⟩
  have HX1 := hid hx1
  obtain ⟨b0, b1, b2⟩ := HB.out
  have b0 := HX1.out.cell b0
  have b1 := HX1.out.cell b1
  have b2 := HX1.out.cell b2
  clear hx1
  rcases hreg with ⟨rfl, hf⟩ | ⟨rfl, hf⟩ | ⟨j, s, rfl, hj, hf⟩
  · have e : X = ([], 11) := by rw [← HX.out, fetchOf, hf]
    subst e
    clear hf
    go_wp2
    go_ret2
    exact ⟨HE.out.trans HX1.out, _, rfl, Sl.nil⟩
  · have e : X = ([], 12) := by rw [← HX.out, fetchOf, hf]; rfl
    subst e
    rw [← HLN.out]
    have hnn : ((n : Int) == (n : Int)) = true := by simp
    clear hf
    go_wp2
    go_ret2
    exact ⟨HE.out.trans HX1.out, _, rfl, Sl.nil⟩
  · have hjn := (List.getElem?_eq_some_iff.1 hj).1
    rw [← HLN.out] at hjn
    have hjl : ((j : Int) == (n : Int)) = false := by simp; omega
    obtain ⟨b, off, dA, dc, rfl, -, -, -, -, -, -, -, -, c4⟩ := HS.out.sec_at hj
    have c4 := (HO.out.trans (HE.out.trans HX1.out)).cell c4
    have hxe : X = if s.ex = true then (presentOf (regOf s) (lookIn cs) a 6, 0) else ([], 12) := by rw [← HX.out, fetchOf, hf]; rfl
    obtain ⟨z, hz⟩ : ∃ z, s.ex = z := ⟨_, rfl⟩
    rw [hz] at c4 hxe
    have HBO := hid (bytesOf_eq H0.out (M := lookIn cs) (q := 6) hf)
    clear hz hj hf
    cases z with
    | false =>
      have e : X = ([], 12) := hxe
      subst e
      clear hxe
      go_wp2
      go_ret2
      exact ⟨HE.out.trans HX1.out, _, rfl, Sl.nil⟩
    | true =>
      have e : X = (presentOf (regOf s) (lookIn cs) a 6, 0) := hxe
      subst e
      clear hxe
      obtain ⟨rm, hrm⟩ : ∃ rm, roomOf (regsOf l) a = rm := ⟨_, rfl⟩
      have hrl := room_le H0.out a
      rw [hrm] at hrl
      have HRM := hid hrm; clear hrm
      go_wp2_with fail
      refine wp_region_held_drew (S := (fun w' => w'.cell? ⟨w.heap.size, 0, none⟩ = some (.bool true) ∧ w'.cell? ⟨w.heap.size, 1, none⟩ = some (.slice (some ⟨b, off, none⟩) n c) ∧ w'.cell? ⟨w.heap.size, 2, none⟩ = some (.slice CA cm cd))) (by kernel_rfl) ⟨b0, b1, b2⟩ (fun hSR0 => ?_)
      refine wpAnyH_takeL (i := 0) (v := ?Rv0) rfl (by kernel_rfl) (by kernel_rfl) (by kernel_rfl) (fun _ _ _ h => h) (Or.inl ⟨by rfl, ?Ry0⟩) (by assumption) ?Rr0
      case Ry0 => first | (intro w hSw; (try dsimp only at hSw); go_simp; done) | (intro w hSw; (try dsimp only at hSw); go_simp; with_reducible rfl)
      case' Rr0 => try simp only [Act.put, List.setIfInBounds_toArray, List.set_cons_zero, List.set_cons_succ]
      refine wpAnyH_takeL (i := 1) (v := ?Rv1) rfl (by kernel_rfl) (by kernel_rfl) (by kernel_rfl) (fun _ _ _ h => h) (Or.inl ⟨by rfl, ?Ry1⟩) (by assumption) ?Rr1
      case Ry1 => first | (intro w hSw; (try dsimp only at hSw); go_simp; done) | (intro w hSw; (try dsimp only at hSw); go_simp; with_reducible rfl)
      case' Rr1 => try simp only [Act.put, List.setIfInBounds_toArray, List.set_cons_zero, List.set_cons_succ]
      refine wpAnyH_takeL (i := 2) (v := ?Rv2) rfl (by kernel_rfl) (by kernel_rfl) (by kernel_rfl) (fun _ _ _ h => h) (Or.inl ⟨by rfl, ?Ry2⟩) (by assumption) ?Rr2
      case Ry2 => first | (intro w hSw; (try dsimp only at hSw); go_simp; done) | (intro w hSw; (try dsimp only at hSw); go_simp; with_reducible rfl)
      case' Rr2 => try simp only [Act.put, List.setIfInBounds_toArray, List.set_cons_zero, List.set_cons_succ]
      refine wpAnyH_takeL (i := 3) (v := ?Rv3) rfl (by kernel_rfl) (by kernel_rfl) (by kernel_rfl) (fun _ _ _ h => h) (Or.inl ⟨by rfl, ?Ry3⟩) (by assumption) ?Rr3
      case Ry3 => first | (intro w hSw; (try dsimp only at hSw); go_simp; done) | (intro w hSw; (try dsimp only at hSw); go_simp; with_reducible rfl)
      case' Rr3 => try simp only [Act.put, List.setIfInBounds_toArray, List.set_cons_zero, List.set_cons_succ]
      refine wpAnyH_ready (rs := [4]) (by kernel_rfl) (by simp) ?_
      refine AllReadyH.consL rfl (fun K hK => ?_) AllReadyH.nil
      go_simp
      go_at_call 38
      refine (rest9_any wo _ (HO.out.trans (HE.out.trans HX1.out.drew)) (some ⟨b, off, none⟩) n c l HS.out H0.out CA cm cd a ha).mono ?_
      rintro e w3 ⟨rfl, hx3⟩
      rw [HRM.out]
      have HX3 := hid (HX1.out.drew.trans hx3)
      have HX33 := hid hx3
      clear hx3
      refine hK.out _ _ ⟨HX33.out.cell b0, HX33.out.cell b1, HX33.out.cell b2⟩ (fun hSR1 => ?_)
      clear hK K
      try simp only [Act.put, List.setIfInBounds_toArray, List.set_cons_zero, List.set_cons_succ]
      refine wpAnyH_takeL (i := 5) (v := ?Rv5) rfl (by kernel_rfl) (by kernel_rfl) (by kernel_rfl) (fun _ _ _ h => h) (Or.inl ⟨by rfl, ?Ry5⟩) (by assumption) ?Rr5
      case Ry5 => first | (intro w hSw; (try dsimp only at hSw); go_simp; done) | (intro w hSw; (try dsimp only at hSw); go_simp; with_reducible rfl)
      case' Rr5 => try simp only [Act.put, List.setIfInBounds_toArray, List.set_cons_zero, List.set_cons_succ]
      refine wpAnyH_ready (rs := [6]) (by kernel_rfl) (by simp) ?_
      refine AllReadyH.consL rfl (fun K hK => ?_) AllReadyH.nil
      go_simp
      go_at_call 41
      rw [show (min 6 (rm : Int)) = ((min 6 rm : Nat) : Int) by omega]
      refine (bytesFrom9_any wo _ (HO.out.trans (HE.out.trans HX3.out)) (some ⟨b, off, none⟩) n c l HS.out H0.out CA cm cd cs HC.out HLT.out a ha (min 6 rm) (by omega)).mono ?_
      rintro e w4 ⟨hx4, A4, d4, rfl, hs4⟩
      have HX4 := hid (HX3.out.trans hx4)
      have HX44 := hid (HX33.out.trans hx4)
      have HS4 := hid hs4
      clear hx4 hs4
      refine hK.out _ _ ⟨HX44.out.cell b0, HX44.out.cell b1, HX44.out.cell b2⟩ (fun hSR2 => ?_)
      clear hK K
      try simp only [Act.put, List.setIfInBounds_toArray, List.set_cons_zero, List.set_cons_succ]
      refine wpAnyH_takeL (i := 7) (v := ?Rv7) rfl (by kernel_rfl) (by kernel_rfl) (by kernel_rfl) (fun _ _ _ h => h) (Or.inl ⟨by rfl, ?Ry7⟩) (by assumption) ?Rr7
      case Ry7 => first | (intro w hSw; (try dsimp only at hSw); go_simp; done) | (intro w hSw; (try dsimp only at hSw); go_simp; with_reducible rfl)
      case' Rr7 => try simp only [Act.put, List.setIfInBounds_toArray, List.set_cons_zero, List.set_cons_succ]
      refine wpAnyH_takeL (i := 8) (v := ?Rv8) rfl (by kernel_rfl) (by kernel_rfl) (by kernel_rfl) (fun _ _ _ h => h) (Or.inl ⟨by rfl, ?Ry8⟩) (by assumption) ?Rr8
      case Ry8 => first | (intro w hSw; (try dsimp only at hSw); go_simp; done) | (intro w hSw; (try dsimp only at hSw); go_simp; with_reducible rfl)
      case' Rr8 => try simp only [Act.put, List.setIfInBounds_toArray, List.set_cons_zero, List.set_cons_succ]
      refine wpAnyH_done (by kernel_rfl) ?_ _
      go_wp2
      go_ret2
      have hs := HS4.out.all
      have hbo := HBO.out
      rw [HRM.out] at hbo
      rw [hbo] at hs
      exact ⟨HE.out.trans HX4.out, _, by rw [hbo]; rfl, hs⟩
end Go.Proofs.Ytjfdbfbdkjfgpaa
