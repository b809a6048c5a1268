/- The reference's memory: Changes. -/
import Derived.Test.YtjfdbfbdkjfgpaaR9D
import Derived.Test.YtjfdbfbdkjfgpaaR9B
namespace Go.Proofs.Ytjfdbfbdkjfgpaa
open Go.RowKit Go.Deco
set_option linter.unusedSimpArgs false
set_option linter.unusedVariables false

def chgCells (regs : List Reg) (cs : List (Nat × Nat)) : List Nat := (cs.filter fun p => p.2 != iniOf regs p.1).map (·.1)
theorem chgCells_snoc (regs : List Reg) (cs : List (Nat × Nat)) (p : Nat × Nat) : chgCells regs (cs ++ [p]) = if p.2 = iniOf regs p.1 then chgCells regs cs else chgCells regs cs ++ [p.1] := by
  unfold chgCells
  rw [List.filter_append, List.map_append]
  by_cases h : p.2 = iniOf regs p.1
  · rw [if_pos h]
    simp [List.filter_cons, h]
  · rw [if_neg h]
    simp [List.filter_cons, h]
theorem chgCells_length (regs : List Reg) (cs : List (Nat × Nat)) : (chgCells regs cs).length ≤ cs.length := by
  unfold chgCells
  rw [List.length_map]
  exact List.length_filter_le _ _
theorem lookIn_mem : ∀ {cs : List (Nat × Nat)} {a b : Nat}, AscC cs → ((a, b) ∈ cs ↔ lookIn cs a = some b)
  | [], a, b, _ => by simp [lookIn]
  | p :: r, a, b, h => by
    have h' := List.pairwise_cons.1 h
    rw [lookIn, List.mem_cons]
    by_cases e : p.1 = a
    · rw [if_pos e]
      constructor
      · rintro (h1 | h1)
        · rw [← h1]
        · have := h'.1 _ h1
          simp only at this
          omega
      · intro h1
        injection h1 with h1
        exact .inl (by rw [← e, ← h1])
    · rw [if_neg e]
      rw [← lookIn_mem (cs := r) h'.2]
      constructor
      · rintro (h1 | h1)
        · exact absurd (by rw [← h1]) e
        · exact h1
      · exact .inr
theorem chgCells_mem {regs : List Reg} {cs : List (Nat × Nat)} (h : AscC cs) (hr : ∀ p ∈ cs, findReg regs p.1 ≠ none) (a : Nat) : a ∈ chgCells regs cs ↔ changedAt regs (lookIn cs) a = true := by
  unfold chgCells
  rw [List.mem_map]
  constructor
  · rintro ⟨⟨x, y⟩, hp, rfl⟩
    rw [List.mem_filter] at hp
    have hl := (lookIn_mem h).1 hp.1
    unfold changedAt
    cases hf : findReg regs x with
    | none => exact absurd hf (hr _ hp.1)
    | some r =>
      simp only [hl]
      have h2 := hp.2
      unfold iniOf at h2
      rw [hf] at h2
      simp at h2 ⊢
      exact fun e => h2 e.symm
  · intro hc
    unfold changedAt at hc
    split at hc
    · cases hc
    · rename_i r hf
      split at hc
      · cases hc
      · rename_i c hl
        refine ⟨(a, c), ?_, rfl⟩
        rw [List.mem_filter]
        refine ⟨(lookIn_mem h).2 hl, ?_⟩
        unfold iniOf
        rw [hf]
        simp at hc ⊢
        exact fun e => hc e.symm
theorem chgCells_asc {regs : List Reg} {cs : List (Nat × Nat)} (h : AscC cs) : (chgCells regs cs).Pairwise (· < ·) := by
  unfold chgCells
  rw [List.pairwise_map]
  exact List.Pairwise.filter _ h

set_option maxRecDepth 100000 in
set_option maxHeartbeats 2000000 in
theorem changes9_any (wo w : World) (ho : Ext wo w) (LA : Option Addr) (n c : Nat) (l : List Sec) (hl : Sl secR wo All (.slice LA n c) l) (h0 : secCheck l = 0) (CA : Option Addr) (cm cd : Nat) (cs : List (Nat × Nat)) (hc : Sl cellR wo All (.slice CA cm cd) cs)
    (hcm : cm ≤ 100000) : Calls Try.prog 25 #[.agg #[.bool true, .slice LA n c, .slice CA cm cd]] w (ListOf w (chgCells (regsOf l) cs)) := by
  obtain ⟨hmc, hdm⟩ := hc.cap
  have hcl := hc.len
  obtain ⟨i0, hi, hz0, hz1, hz2⟩ := info_parts info_w32
  have HI := hid hi; clear hi
  have HZ0 := hid hz0; clear hz0
  have HZ1 := hid hz1; clear hz1
  have HZ2 := hid hz2; clear hz2
  have HCL := hid hcl; clear hcl
  have HS := hid hl; clear hl
  have HC := hid hc; clear hc
  have HO := hid ho; clear ho
  have H0 := hid h0; clear h0
  obtain ⟨W0, hW0⟩ : ∃ W0, w.alloc (Obj.cells #[.bool true, .slice LA n c, .slice CA cm cd] 45) = W0 := ⟨_, rfl⟩
  have hE : Ext w W0 := by rw [← hW0]; exact (Ext.refl w).alloc _
  have b0 : W0.cell? ⟨w.heap.size, 0, none⟩ = some (.bool true) := by rw [← hW0]; simp
  have b1 : W0.cell? ⟨w.heap.size, 1, none⟩ = some (.slice LA n c) := by rw [← hW0]; simp
  have b2 : W0.cell? ⟨w.heap.size, 2, none⟩ = some (.slice CA cm cd) := by rw [← hW0]; simp
  have HE := hid hE; clear hE
  have HB := hid (And.intro b0 (And.intro b1 b2))
  go_enter Try.func25, Try.ntmps25
  go_wp2
  clear hW0 b0 b1 b2
  go_loopw [3, 4] (fun v i wr => ∃ (k : Nat) (A' : Option Addr) (m' c' : Nat), k ≤ cm ∧ i = .int .i64 k ∧ v = .slice A' m' c' ∧ m' ≤ k ∧ Hid (Own u32R wr W0.heap.size 23 (.slice A' m' c') (chgCells (regsOf l) (cs.take k))) ∧ Hid (Ext W0 wr)) (fun _ i _ => cm - (intOf i).toNat)
  case atStart => exact ⟨0, none, 0, 0, by omega, rfl, rfl, by omega, hid (by simpa [chgCells] using OwnS.nil), hid (Ext.refl _)⟩
  case round =>
    obtain ⟨k, A', m', c', hk, rfl, rfl, hmk, hown, hx⟩ := hrel
    obtain ⟨b0, b1, b2⟩ := HB.out
    have b0 := hx.out.cell b0
    have b1 := hx.out.cell b1
    have b2 := hx.out.cell b2
    by_cases h1 : k < cm
    · obtain ⟨⟨x, y⟩, hy⟩ : ∃ y, cs[k]? = some y := ⟨_, List.getElem?_eq_getElem (by have := HCL.out; omega)⟩
      obtain ⟨b, off, rfl, c0, c1, hxl, hyl⟩ := Sl_cell_at HC.out hy
      have hww := HO.out.trans (HE.out.trans hx.out)
      have c0 := hww.cell c0
      have c1 := hww.cell c1
      have hk0 : (0 : Int) ≤ (k : Int) := by omega
      have hk1 : (k : Int) < (cm : Int) := by omega
      have hsn := chgCells_snoc (regsOf l) (cs.take k) (x, y)
      rw [← take_snoc' hy] at hsn
      obtain ⟨z, hz⟩ : ∃ z, iniOf (regsOf l) x = z := ⟨_, rfl⟩
      simp only at hsn
      rw [hz] at hsn
      have HZ := hid hz
      have HSN := hid hsn
      clear hy hsn hz hww
      go_wp2_with fail
      refine wp_region_held_drew (S := (fun w' => (w'.cell? ⟨w.heap.size, 0, none⟩ = some (.bool true) ∧ w'.cell? ⟨w.heap.size, 1, none⟩ = some (.slice LA n c) ∧ w'.cell? ⟨w.heap.size, 2, none⟩ = some (.slice (some ⟨b, off, none⟩) cm cd)) ∧ w'.cell? ⟨b, off + k * 2, none⟩ = some (.int .u32 x) ∧ w'.cell? ⟨b, off + k * 2 + 1, none⟩ = some (.int .u8 y))) (by kernel_rfl) ⟨⟨b0, b1, b2⟩, c0, c1⟩ (fun hSR0 => ?_)
      refine wpAnyH_takeL (i := 0) (v := ?Rv0) rfl (by kernel_rfl) (by kernel_rfl) (by kernel_rfl) (fun _ _ _ h => h) (Or.inl ⟨by rfl, ?Ry0⟩) (by assumption) ?Rr0
      case Ry0 => first | (intro w hSw; (try dsimp only at hSw); go_simp; done) | (intro w hSw; (try dsimp only at hSw); go_simp; with_reducible rfl)
      case' Rr0 => try simp only [Act.put, List.setIfInBounds_toArray, List.set_cons_zero, List.set_cons_succ]
      refine wpAnyH_takeL (i := 1) (v := ?Rv1) rfl (by kernel_rfl) (by kernel_rfl) (by kernel_rfl) (fun _ _ _ h => h) (Or.inl ⟨by rfl, ?Ry1⟩) (by assumption) ?Rr1
      case Ry1 => first | (intro w hSw; (try dsimp only at hSw); go_simp; done) | (intro w hSw; (try dsimp only at hSw); go_simp; with_reducible rfl)
      case' Rr1 => try simp only [Act.put, List.setIfInBounds_toArray, List.set_cons_zero, List.set_cons_succ]
      refine wpAnyH_takeL (i := 2) (v := ?Rv2) rfl (by kernel_rfl) (by kernel_rfl) (by kernel_rfl) (fun _ _ _ h => h) (Or.inl ⟨by rfl, ?Ry2⟩) (by assumption) ?Rr2
      case Ry2 => first | (intro w hSw; (try dsimp only at hSw); go_simp; done) | (intro w hSw; (try dsimp only at hSw); go_simp; with_reducible rfl)
      case' Rr2 => try simp only [Act.put, List.setIfInBounds_toArray, List.set_cons_zero, List.set_cons_succ]
      refine wpAnyH_takeL (i := 3) (v := ?Rv3) rfl (by kernel_rfl) (by kernel_rfl) (by kernel_rfl) (fun _ _ _ h => h) (Or.inl ⟨by rfl, ?Ry3⟩) (by assumption) ?Rr3
      case Ry3 => first | (intro w hSw; (try dsimp only at hSw); go_simp; done) | (intro w hSw; (try dsimp only at hSw); go_simp; with_reducible rfl)
      case' Rr3 => try simp only [Act.put, List.setIfInBounds_toArray, List.set_cons_zero, List.set_cons_succ]
      refine wpAnyH_takeL (i := 4) (v := ?Rv4) rfl (by kernel_rfl) (by kernel_rfl) (by kernel_rfl) (fun _ _ _ h => h) (Or.inl ⟨by rfl, ?Ry4⟩) (by assumption) ?Rr4
      case Ry4 => first | (intro w hSw; (try dsimp only at hSw); go_simp; done) | (intro w hSw; (try dsimp only at hSw); go_simp; with_reducible rfl)
      case' Rr4 => try simp only [Act.put, List.setIfInBounds_toArray, List.set_cons_zero, List.set_cons_succ]
      refine wpAnyH_takeL (i := 5) (v := ?Rv5) rfl (by kernel_rfl) (by kernel_rfl) (by kernel_rfl) (fun _ _ _ h => h) (Or.inl ⟨by rfl, ?Ry5⟩) (by assumption) ?Rr5
      case Ry5 => first | (intro w hSw; (try dsimp only at hSw); go_simp; done) | (intro w hSw; (try dsimp only at hSw); go_simp; with_reducible rfl)
      case' Rr5 => try simp only [Act.put, List.setIfInBounds_toArray, List.set_cons_zero, List.set_cons_succ]
      refine wpAnyH_takeL (i := 6) (v := ?Rv6) rfl (by kernel_rfl) (by kernel_rfl) (by kernel_rfl) (fun _ _ _ h => h) (Or.inl ⟨by rfl, ?Ry6⟩) (by assumption) ?Rr6
      case Ry6 => first | (intro w hSw; (try dsimp only at hSw); go_simp; done) | (intro w hSw; (try dsimp only at hSw); go_simp; with_reducible rfl)
      case' Rr6 => try simp only [Act.put, List.setIfInBounds_toArray, List.set_cons_zero, List.set_cons_succ]
      refine wpAnyH_takeL (i := 7) (v := ?Rv7) rfl (by kernel_rfl) (by kernel_rfl) (by kernel_rfl) (fun _ _ _ h => h) (Or.inl ⟨by rfl, ?Ry7⟩) (by assumption) ?Rr7
      case Ry7 => first | (intro w hSw; (try dsimp only at hSw); go_simp; done) | (intro w hSw; (try dsimp only at hSw); go_simp; with_reducible rfl)
      case' Rr7 => try simp only [Act.put, List.setIfInBounds_toArray, List.set_cons_zero, List.set_cons_succ]
      refine wpAnyH_takeL (i := 8) (v := ?Rv8) rfl (by kernel_rfl) (by kernel_rfl) (by kernel_rfl) (fun _ _ _ h => h) (Or.inl ⟨by rfl, ?Ry8⟩) (by assumption) ?Rr8
      case Ry8 => first | (intro w hSw; (try dsimp only at hSw); go_simp; done) | (intro w hSw; (try dsimp only at hSw); go_simp; with_reducible rfl)
      case' Rr8 => try simp only [Act.put, List.setIfInBounds_toArray, List.set_cons_zero, List.set_cons_succ]
      refine wpAnyH_takeL (i := 9) (v := ?Rv9) rfl (by kernel_rfl) (by kernel_rfl) (by kernel_rfl) (fun _ _ _ h => h) (Or.inl ⟨by rfl, ?Ry9⟩) (by assumption) ?Rr9
      case Ry9 => first | (intro w hSw; (try dsimp only at hSw); go_simp; done) | (intro w hSw; (try dsimp only at hSw); go_simp; with_reducible rfl)
      case' Rr9 => try simp only [Act.put, List.setIfInBounds_toArray, List.set_cons_zero, List.set_cons_succ]
      refine wpAnyH_takeL (i := 10) (v := ?Rv10) rfl (by kernel_rfl) (by kernel_rfl) (by kernel_rfl) (fun _ _ _ h => h) (Or.inl ⟨by rfl, ?Ry10⟩) (by assumption) ?Rr10
      case Ry10 => first | (intro w hSw; (try dsimp only at hSw); go_simp; done) | (intro w hSw; (try dsimp only at hSw); go_simp; with_reducible rfl)
      case' Rr10 => try simp only [Act.put, List.setIfInBounds_toArray, List.set_cons_zero, List.set_cons_succ]
      refine wpAnyH_takeL (i := 11) (v := ?Rv11) rfl (by kernel_rfl) (by kernel_rfl) (by kernel_rfl) (fun _ _ _ h => h) (Or.inl ⟨by rfl, ?Ry11⟩) (by assumption) ?Rr11
      case Ry11 => first | (intro w hSw; (try dsimp only at hSw); go_simp; done) | (intro w hSw; (try dsimp only at hSw); go_simp; with_reducible rfl)
      case' Rr11 => try simp only [Act.put, List.setIfInBounds_toArray, List.set_cons_zero, List.set_cons_succ]
      refine wpAnyH_takeL (i := 12) (v := ?Rv12) rfl (by kernel_rfl) (by kernel_rfl) (by kernel_rfl) (fun _ _ _ h => h) (Or.inl ⟨by rfl, ?Ry12⟩) (by assumption) ?Rr12
      case Ry12 => first | (intro w hSw; (try dsimp only at hSw); go_simp; done) | (intro w hSw; (try dsimp only at hSw); go_simp; with_reducible rfl)
      case' Rr12 => try simp only [Act.put, List.setIfInBounds_toArray, List.set_cons_zero, List.set_cons_succ]
      refine wpAnyH_ready (rs := [13]) (by kernel_rfl) (by simp) ?_
      refine AllReadyH.consL rfl (fun K hK => ?_) AllReadyH.nil
      go_simp
      go_at_call 44
      refine (initial9_any wo _ (HO.out.trans (HE.out.trans hx.out.drew)) LA n c l HS.out H0.out (some ⟨b, off, none⟩) cm cd x hxl).mono ?_
      rintro e w3 ⟨rfl, hx3⟩
      rw [HZ.out]
      have HX3 := hid hx3.drew_left
      clear hx3
      refine hK.out _ _ ⟨⟨HX3.out.cell b0, HX3.out.cell b1, HX3.out.cell b2⟩, HX3.out.cell c0, HX3.out.cell c1⟩ (fun hSR1 => ?_)
      clear hK K
      try simp only [Act.put, List.setIfInBounds_toArray, List.set_cons_zero, List.set_cons_succ]
      refine wpAnyH_takeL (i := 14) (v := ?Rv14) rfl (by kernel_rfl) (by kernel_rfl) (by kernel_rfl) (fun _ _ _ h => h) (Or.inl ⟨by rfl, ?Ry14⟩) (by assumption) ?Rr14
      case Ry14 => first | (intro w hSw; (try dsimp only at hSw); go_simp; done) | (intro w hSw; (try dsimp only at hSw); go_simp; with_reducible rfl)
      case' Rr14 => try simp only [Act.put, List.setIfInBounds_toArray, List.set_cons_zero, List.set_cons_succ]
      refine wpAnyH_done (by kernel_rfl) ?_ _
      have d0 := HX3.out.cell b0
      have d1 := HX3.out.cell b1
      have d2 := HX3.out.cell b2
      have e0 := HX3.out.cell c0
      have e1 := HX3.out.cell c1
      have HXX := hid (hx.out.trans HX3.out)
      have HO3 := hid (hown.out.ext HX3.out)
      have HLN := hid hown.out.len
      have HOB := hid hown.out.block
      clear b0 b1 b2 c0 c1
      by_cases hyz : y = z
      · subst hyz
        have hne : ((y : Int) != (y : Int)) = false := by simp
        go_wp2
        go_roundw
        case rel => exact ⟨k + 1, A', m', c', by omega, by go_num, rfl, by omega, hid (by rw [HSN.out, if_pos rfl]; exact HO3.out), HXX⟩
        case measure => simp [intOf]; omega
      · have hne : ((y : Int) != (z : Int)) = true := by simp; omega
        go_wp2_with (first
          | (at_builtin; refine wpList_app1 rfl (.tmp 27) (.tmp 34) 35 rfl W0.heap.size 23 i0 _ 1 4 Try.underlying35 HI.out HZ0.out HZ1.out HZ2.out rfl u32R rfl (.slice A' m' c') (chgCells (regsOf l) (cs.take k)) rfl HO3.out x rfl ⟨rfl, hxl⟩ (by have := HLN.out; omega) (by have := HLN.out; omega) (by exact HXX.out.size) ?_; intro A2 c2 w2 hown2 hg2; rw [← HLN.out] at hown2; have HO2 := hid hown2; have HX2 := hid ((HXX.out.alloc _).grown hg2 (fun j hj => (HOB.out _ hj).1)); clear hown2 hg2; rw [← HLN.out])
          | fail)
        go_roundw
        case rel => exact ⟨k + 1, A2, m' + 1, c2, by omega, by go_num, rfl, by omega, hid (by rw [HSN.out, if_neg hyz]; exact HO2.out), HX2⟩
        case measure => simp [intOf]; omega
    · obtain rfl : cm = k := by omega
      have e1 : cs.take cm = cs := List.take_of_length_le (by have := HCL.out; omega)
      have ho := hown.out
      rw [e1] at ho
      have hln := ho.len
      clear e1
      go_wp2
      go_ret
      rw [hln] at ho
      refine ⟨HE.out.trans hx.out, A', c', by rw [← hln]; rfl, ho.sl⟩
end Go.Proofs.Ytjfdbfbdkjfgpaa
