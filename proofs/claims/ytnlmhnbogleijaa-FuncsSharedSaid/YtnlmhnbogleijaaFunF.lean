/- fromRef, Has, in; of the reference: index, Entries, Callees, Callers. -/
import Derived.Test.YtnlmhnbogleijaaFunE
import Derived.StillTailTactics
namespace Go.Proofs.Ytnlmhnbogleijaa
open Go.RowKit Go.Deco
set_option linter.unusedSimpArgs false
set_option linter.unusedVariables false

set_option maxRecDepth 100000 in
set_option maxHeartbeats 400000 in
theorem has_any (w : World) (S : Nat → Prop) (A : Option Addr) (n c : Nat) (l : List Nat) (hl : Sl u32R w S (.slice A n c) l) (x : Nat) :
    Calls Try.prog 17 #[.slice A n c, .int .u32 x] w fun e w' => e = .returned (.bool (l.contains x)) ∧ w = w' := by
  have hln := hl.len
  obtain ⟨hnc, hcm⟩ := hl.cap
  obtain ⟨r, hr⟩ : ∃ r, l.contains x = r := ⟨_, rfl⟩
  rw [hr]
  have HR := hid hr; clear hr
  have HS := hid hl; clear hl
  have HL := hid hln; clear hln
  go_enter Try.func17, Try.ntmps17
  go_wp2
  go_loop [5] (fun i => ∃ k : Nat, k ≤ n ∧ i = .int .i64 k ∧ Hid (x ∉ l.take k)) (fun i => n - (intOf i).toNat)
  case atStart => exact ⟨0, by omega, rfl, hid (by simp)⟩
  case round =>
    obtain ⟨k, hk, rfl, ha⟩ := hrel
    by_cases h1 : k < n
    · obtain ⟨s, hs⟩ : ∃ s, l[k]? = some s := ⟨_, List.getElem?_eq_getElem (by have := HL.out; omega)⟩
      obtain ⟨b, off, rfl, c0, hs32⟩ := HS.out.num_at hs
      have HK := hid hs; clear hs
      by_cases h2 : s = x
      · subst h2
        have h3 : ((s : Int) == (s : Int)) = true := by simp
        go_wp2
        go_ret
        exact ⟨ret_bool (by rw [← HR.out]; have := List.mem_of_getElem? HK.out; simp [this]), rfl⟩
      · have h3 : ((s : Int) == (x : Int)) = false := by simp; omega
        go_wp2
        go_round
        case rel =>
          refine ⟨k + 1, by omega, by go_num, hid ?_⟩
          rw [take_snoc' HK.out, List.mem_append]
          intro h
          rcases h with h | h
          · exact ha.out h
          · simp at h
            exact h2 h.symm
        case measure => simp [intOf]; omega
    · obtain rfl : k = n := by omega
      go_wp2
      go_ret
      have e : l.take k = l := List.take_of_length_le (by have := HL.out; omega)
      have h := ha.out
      rw [e] at h
      exact ⟨ret_bool (by rw [← HR.out]; simp [h]), rfl⟩

set_option maxRecDepth 100000 in
set_option maxHeartbeats 2000000 in
theorem from_any (w : World) (A : Option Addr) (n c : Nat) (l : List Fn18) (hl : Sl fnR w All (.slice A n c) l) (hn : n ≤ 1000000) :
    Calls Try.prog 9 #[.slice A n c] w (FnsPost w l) := by
  have hln := hl.len
  obtain ⟨hnc, hcm⟩ := hl.cap
  obtain ⟨i0, hi, hz0, hz1, hz2⟩ := info_parts info_fn
  have HS := hid (hl.mono (S' := fun b => b < w.heap.size) fun b _ h => h.lt); clear hl
  have HLN := hid hln; clear hln
  have HI := hid hi; clear hi
  have HZ0 := hid hz0; clear hz0
  have HZ1 := hid hz1; clear hz1
  have HZ2 := hid hz2; clear hz2
  go_enter Try.func9, Try.ntmps9
  go_wp2
  go_loopw [3, 4] (fun v i wr => ∃ (k : Nat) (A' : Option Addr) (c' : Nat), k ≤ n ∧ i = .int .i64 k ∧ v = .slice A' k c' ∧ Hid (OwnS fnR wr w.heap.size 43 (fun b => b < w.heap.size) (.slice A' k c') (l.take k)) ∧ Hid (Ext w wr)) (fun _ i _ => n - (intOf i).toNat)
  case atStart => exact ⟨0, none, 0, by omega, rfl, rfl, hid (by simpa using OwnS.nil), hid (Ext.refl _)⟩
  case round =>
    obtain ⟨k, A', c', hk, rfl, rfl, hown, hx⟩ := hrel
    by_cases h1 : k < n
    · obtain ⟨f, hf⟩ : ∃ f, l[k]? = some f := ⟨_, List.getElem?_eq_getElem (by have := HLN.out; omega)⟩
      obtain ⟨b, off, bA, bc, cA, cc, rfl, hb, hcl, hel, hnm, c0, c1, c2, c3, c4⟩ := Sl_fn_at (HS.out.ext hx.out) hf
      have HFK := hid hf; clear hf
      have HB := hid hb; clear hb
      have HCL := hid hcl; clear hcl
      have HNM := hid hnm; clear hnm
      have HKL := hid (show (l.take k).length = k by rw [List.length_take]; have := HLN.out; omega)
      have HO0 := hid hown.out.dr
      have HX0 := hid hx.out.drew
      have HBL := hid (show b < w.heap.size from by
        obtain ⟨_, _, _, _, _, _, hA, _, _, _, _, d0, _⟩ := Sl_fn_at HS.out HFK.out
        cases hA
        exact World.block_lt_of_cell? _ _ d0)
      go_wp2_with fail
      refine wp_region_held_drew (S := (fun w' => w'.cell? ⟨b, off + k * 5, none⟩ = some (.int .u32 f.entry) ∧ w'.cell? ⟨b, off + k * 5 + 1, none⟩ = some (.string f.name) ∧ w'.cell? ⟨b, off + k * 5 + 2, none⟩ = some (.slice bA f.blocks.length bc) ∧ w'.cell? ⟨b, off + k * 5 + 3, none⟩ = some (.slice cA f.calls.length cc) ∧ w'.cell? ⟨b, off + k * 5 + 4, none⟩ = some (.bool f.leaf))) (by kernel_rfl) ⟨c0, c1, c2, c3, c4⟩ (fun hSR0 => ?_)
      refine wpAnyH_takeL (i := 0) (v := ?Rv0) rfl (by kernel_rfl) (by kernel_rfl) (by kernel_rfl) (fun _ _ _ h => h) (Or.inl ⟨by rfl, ?Ry0⟩) (by assumption) ?Rr0
      case Ry0 => first | (intro w hSw; (try dsimp only at hSw); go_simp; done) | (intro w hSw; (try dsimp only at hSw); go_simp; with_reducible rfl)
      case' Rr0 => try simp only [Act.put, List.setIfInBounds_toArray, List.set_cons_zero, List.set_cons_succ]
      refine wpAnyH_takeL (i := 1) (v := ?Rv1) rfl (by kernel_rfl) (by kernel_rfl) (by kernel_rfl) (fun _ _ _ h => h) (Or.inl ⟨by rfl, ?Ry1⟩) (by assumption) ?Rr1
      case Ry1 => first | (intro w hSw; (try dsimp only at hSw); go_simp; done) | (intro w hSw; (try dsimp only at hSw); go_simp; with_reducible rfl)
      case' Rr1 => try simp only [Act.put, List.setIfInBounds_toArray, List.set_cons_zero, List.set_cons_succ]
      refine wpAnyH_takeL (i := 2) (v := ?Rv2) rfl (by kernel_rfl) (by kernel_rfl) (by kernel_rfl) (fun _ _ _ h => h) (Or.inl ⟨by rfl, ?Ry2⟩) (by assumption) ?Rr2
      case Ry2 => first | (intro w hSw; (try dsimp only at hSw); go_simp; done) | (intro w hSw; (try dsimp only at hSw); go_simp; with_reducible rfl)
      case' Rr2 => try simp only [Act.put, List.setIfInBounds_toArray, List.set_cons_zero, List.set_cons_succ]
      refine wpAnyH_takeL (i := 3) (v := ?Rv3) rfl (by kernel_rfl) (by kernel_rfl) (by kernel_rfl) (fun _ _ _ h => h) (Or.inl ⟨by rfl, ?Ry3⟩) (by assumption) ?Rr3
      case Ry3 => first | (intro w hSw; (try dsimp only at hSw); go_simp; done) | (intro w hSw; (try dsimp only at hSw); go_simp; with_reducible rfl)
      case' Rr3 => try simp only [Act.put, List.setIfInBounds_toArray, List.set_cons_zero, List.set_cons_succ]
      refine wpAnyH_takeL (i := 4) (v := ?Rv4) rfl (by kernel_rfl) (by kernel_rfl) (by kernel_rfl) (fun _ _ _ h => h) (Or.inl ⟨by rfl, ?Ry4⟩) (by assumption) ?Rr4
      case Ry4 => first | (intro w hSw; (try dsimp only at hSw); go_simp; done) | (intro w hSw; (try dsimp only at hSw); go_simp; with_reducible rfl)
      case' Rr4 => try simp only [Act.put, List.setIfInBounds_toArray, List.set_cons_zero, List.set_cons_succ]
      refine wpAnyH_takeL (i := 5) (v := ?Rv5) rfl (by kernel_rfl) (by kernel_rfl) (by kernel_rfl) (fun _ _ _ h => h) (Or.inl ⟨by rfl, ?Ry5⟩) (by assumption) ?Rr5
      case Ry5 => first | (intro w hSw; (try dsimp only at hSw); go_simp; done) | (intro w hSw; (try dsimp only at hSw); go_simp; with_reducible rfl)
      case' Rr5 => try simp only [Act.put, List.setIfInBounds_toArray, List.set_cons_zero, List.set_cons_succ]
      refine wpAnyH_takeL (i := 6) (v := ?Rv6) rfl (by kernel_rfl) (by kernel_rfl) (by kernel_rfl) (fun _ _ _ h => h) (Or.inl ⟨by rfl, ?Ry6⟩) (by assumption) ?Rr6
      case Ry6 => first | (intro w hSw; (try dsimp only at hSw); go_simp; done) | (intro w hSw; (try dsimp only at hSw); go_simp; with_reducible rfl)
      case' Rr6 => try simp only [Act.put, List.setIfInBounds_toArray, List.set_cons_zero, List.set_cons_succ]
      refine wpAnyH_takeL (i := 7) (v := ?Rv7) rfl (by kernel_rfl) (by kernel_rfl) (by kernel_rfl) (fun _ _ _ h => h) (Or.inl ⟨by rfl, ?Ry7⟩) (by assumption) ?Rr7
      case Ry7 => first | (intro w hSw; (try dsimp only at hSw); go_simp; done) | (intro w hSw; (try dsimp only at hSw); go_simp; with_reducible rfl)
      case' Rr7 => try simp only [Act.put, List.setIfInBounds_toArray, List.set_cons_zero, List.set_cons_succ]
      refine wpAnyH_takeL (i := 8) (v := ?Rv8) rfl (by kernel_rfl) (by kernel_rfl) (by kernel_rfl) (fun _ _ _ h => h) (Or.inl ⟨by rfl, ?Ry8⟩) (by assumption) ?Rr8
      case Ry8 => first | (intro w hSw; (try dsimp only at hSw); go_simp; done) | (intro w hSw; (try dsimp only at hSw); go_simp; with_reducible rfl)
      case' Rr8 => try simp only [Act.put, List.setIfInBounds_toArray, List.set_cons_zero, List.set_cons_succ]
      refine wpAnyH_takeL (i := 9) (v := ?Rv9) rfl (by kernel_rfl) (by kernel_rfl) (by kernel_rfl) (fun _ _ _ h => h) (Or.inl ⟨by rfl, ?Ry9⟩) (by assumption) ?Rr9
      case Ry9 => first | (intro w hSw; (try dsimp only at hSw); go_simp; done) | (intro w hSw; (try dsimp only at hSw); go_simp; with_reducible rfl)
      case' Rr9 => try simp only [Act.put, List.setIfInBounds_toArray, List.set_cons_zero, List.set_cons_succ]
      refine wpAnyH_takeL (i := 10) (v := ?Rv10) rfl (by kernel_rfl) (by kernel_rfl) (by kernel_rfl) (fun _ _ _ h => h) (Or.inl ⟨by rfl, ?Ry10⟩) (by assumption) ?Rr10
      case Ry10 => first | (intro w hSw; (try dsimp only at hSw); go_simp; done) | (intro w hSw; (try dsimp only at hSw); go_simp; with_reducible rfl)
      case' Rr10 => try simp only [Act.put, List.setIfInBounds_toArray, List.set_cons_zero, List.set_cons_succ]
      refine wpAnyH_takeL (i := 11) (v := ?Rv11) rfl (by kernel_rfl) (by kernel_rfl) (by kernel_rfl) (fun _ _ _ h => h) (Or.inl ⟨by rfl, ?Ry11⟩) (by assumption) ?Rr11
      case Ry11 => first | (intro w hSw; (try dsimp only at hSw); go_simp; done) | (intro w hSw; (try dsimp only at hSw); go_simp; with_reducible rfl)
      case' Rr11 => try simp only [Act.put, List.setIfInBounds_toArray, List.set_cons_zero, List.set_cons_succ]
      refine wpAnyH_takeL (i := 12) (v := ?Rv12) rfl (by kernel_rfl) (by kernel_rfl) (by kernel_rfl) (fun _ _ _ h => h) (Or.inl ⟨by rfl, ?Ry12⟩) (by assumption) ?Rr12
      case Ry12 => first | (intro w hSw; (try dsimp only at hSw); go_simp; done) | (intro w hSw; (try dsimp only at hSw); go_simp; with_reducible rfl)
      case' Rr12 => try simp only [Act.put, List.setIfInBounds_toArray, List.set_cons_zero, List.set_cons_succ]
      refine wpAnyH_takeL (i := 13) (v := ?Rv13) rfl (by kernel_rfl) (by kernel_rfl) (by kernel_rfl) (fun _ _ _ h => h) (Or.inl ⟨by rfl, ?Ry13⟩) (by assumption) ?Rr13
      case Ry13 => first | (intro w hSw; (try dsimp only at hSw); go_simp; done) | (intro w hSw; (try dsimp only at hSw); go_simp; with_reducible rfl)
      case' Rr13 => try simp only [Act.put, List.setIfInBounds_toArray, List.set_cons_zero, List.set_cons_succ]
      refine wpAnyH_takeL (i := 14) (v := ?Rv14) rfl (by kernel_rfl) (by kernel_rfl) (by kernel_rfl) (fun _ _ _ h => h) (Or.inl ⟨by rfl, ?Ry14⟩) (by assumption) ?Rr14
      case Ry14 => first | (intro w hSw; (try dsimp only at hSw); go_simp; done) | (intro w hSw; (try dsimp only at hSw); go_simp; with_reducible rfl)
      case' Rr14 => try simp only [Act.put, List.setIfInBounds_toArray, List.set_cons_zero, List.set_cons_succ]
      refine wpAnyH_takeL (i := 15) (v := ?Rv15) rfl (by kernel_rfl) (by kernel_rfl) (by kernel_rfl) (fun _ _ _ h => h) (Or.inl ⟨by rfl, ?Ry15⟩) (by assumption) ?Rr15
      case Ry15 => first | (intro w hSw; (try dsimp only at hSw); go_simp; done) | (intro w hSw; (try dsimp only at hSw); go_simp; with_reducible rfl)
      case' Rr15 => try simp only [Act.put, List.setIfInBounds_toArray, List.set_cons_zero, List.set_cons_succ]
      refine wpAnyH_takeL (i := 16) (v := ?Rv16) rfl (by kernel_rfl) (by kernel_rfl) (by kernel_rfl) (fun _ _ _ h => h) (Or.inl ⟨by rfl, ?Ry16⟩) (by assumption) ?Rr16
      case Ry16 => first | (intro w hSw; (try dsimp only at hSw); go_simp; done) | (intro w hSw; (try dsimp only at hSw); go_simp; with_reducible rfl)
      case' Rr16 => try simp only [Act.put, List.setIfInBounds_toArray, List.set_cons_zero, List.set_cons_succ]
      refine wpAnyH_takeL (i := 17) (v := ?Rv17) rfl (by kernel_rfl) (by kernel_rfl) (by kernel_rfl) (fun _ _ _ h => h) (Or.inl ⟨by rfl, ?Ry17⟩) (by assumption) ?Rr17
      case Ry17 => first | (intro w hSw; (try dsimp only at hSw); go_simp; done) | (intro w hSw; (try dsimp only at hSw); go_simp; with_reducible rfl)
      case' Rr17 => try simp only [Act.put, List.setIfInBounds_toArray, List.set_cons_zero, List.set_cons_succ]
      refine wpAnyH_takeL (i := 18) (v := ?Rv18) rfl (by kernel_rfl) (by kernel_rfl) (by kernel_rfl) (fun _ _ _ h => h) (Or.inl ⟨by rfl, ?Ry18⟩) (by assumption) ?Rr18
      case Ry18 => first | (intro w hSw; (try dsimp only at hSw); go_simp; done) | (intro w hSw; (try dsimp only at hSw); go_simp; with_reducible rfl)
      case' Rr18 => try simp only [Act.put, List.setIfInBounds_toArray, List.set_cons_zero, List.set_cons_succ]
      refine wpAnyH_takeL (i := 19) (v := ?Rv19) rfl (by kernel_rfl) (by kernel_rfl) (by kernel_rfl) (fun _ _ _ h => h) (Or.inl ⟨by rfl, ?Ry19⟩) (by assumption) ?Rr19
      case Ry19 => first | (intro w hSw; (try dsimp only at hSw); go_simp; done) | (intro w hSw; (try dsimp only at hSw); go_simp; with_reducible rfl)
      case' Rr19 => try simp only [Act.put, List.setIfInBounds_toArray, List.set_cons_zero, List.set_cons_succ]
      refine wpAnyH_takeL (i := 20) (v := ?Rv20) rfl (by kernel_rfl) (by kernel_rfl) (by kernel_rfl) (fun _ _ _ h => h) (Or.inl ⟨by rfl, ?Ry20⟩) (by assumption) ?Rr20
      case Ry20 => first | (intro w hSw; (try dsimp only at hSw); go_simp; done) | (intro w hSw; (try dsimp only at hSw); go_simp; with_reducible rfl)
      case' Rr20 => try simp only [Act.put, List.setIfInBounds_toArray, List.set_cons_zero, List.set_cons_succ]
      refine wpAnyH_takeL (i := 21) (v := ?Rv21) rfl (by kernel_rfl) (by kernel_rfl) (by kernel_rfl) (fun _ _ _ h => h) (Or.inl ⟨by rfl, ?Ry21⟩) (by assumption) ?Rr21
      case Ry21 => first | (intro w hSw; (try dsimp only at hSw); go_simp; done) | (intro w hSw; (try dsimp only at hSw); go_simp; with_reducible rfl)
      case' Rr21 => try simp only [Act.put, List.setIfInBounds_toArray, List.set_cons_zero, List.set_cons_succ]
      refine wpAnyH_takeL (i := 22) (v := ?Rv22) rfl (by kernel_rfl) (by kernel_rfl) (by kernel_rfl) (fun _ _ _ h => h) (Or.inl ⟨by rfl, ?Ry22⟩) (by assumption) ?Rr22
      case Ry22 => first | (intro w hSw; (try dsimp only at hSw); go_simp; done) | (intro w hSw; (try dsimp only at hSw); go_simp; with_reducible rfl)
      case' Rr22 => try simp only [Act.put, List.setIfInBounds_toArray, List.set_cons_zero, List.set_cons_succ]
      refine wpAnyH_takeL (i := 23) (v := ?Rv23) rfl (by kernel_rfl) (by kernel_rfl) (by kernel_rfl) (fun _ _ _ h => h) (Or.inl ⟨by rfl, ?Ry23⟩) (by assumption) ?Rr23
      case Ry23 => first | (intro w hSw; (try dsimp only at hSw); go_simp; done) | (intro w hSw; (try dsimp only at hSw); go_simp; with_reducible rfl)
      case' Rr23 => try simp only [Act.put, List.setIfInBounds_toArray, List.set_cons_zero, List.set_cons_succ]
      refine wpAnyH_takeL (i := 24) (v := ?Rv24) rfl (by kernel_rfl) (by kernel_rfl) (by kernel_rfl) (fun _ _ _ h => h) (Or.inl ⟨by rfl, ?Ry24⟩) (by assumption) ?Rr24
      case Ry24 => first | (intro w hSw; (try dsimp only at hSw); go_simp; done) | (intro w hSw; (try dsimp only at hSw); go_simp; with_reducible rfl)
      case' Rr24 => try simp only [Act.put, List.setIfInBounds_toArray, List.set_cons_zero, List.set_cons_succ]
      refine wpAnyH_takeL (i := 25) (v := ?Rv25) rfl (by kernel_rfl) (by kernel_rfl) (by kernel_rfl) (fun _ _ _ h => h) (Or.inl ⟨by rfl, ?Ry25⟩) (by assumption) ?Rr25
      case Ry25 => first | (intro w hSw; (try dsimp only at hSw); go_simp; done) | (intro w hSw; (try dsimp only at hSw); go_simp; with_reducible rfl)
      case' Rr25 => try simp only [Act.put, List.setIfInBounds_toArray, List.set_cons_zero, List.set_cons_succ]
      refine wpAnyH_takeL (i := 26) (v := ?Rv26) rfl (by kernel_rfl) (by kernel_rfl) (by kernel_rfl) (fun _ _ _ h => h) (Or.inl ⟨by rfl, ?Ry26⟩) (by assumption) ?Rr26
      case Ry26 => first | (intro w hSw; (try dsimp only at hSw); go_simp; done) | (intro w hSw; (try dsimp only at hSw); go_simp; with_reducible rfl)
      case' Rr26 => try simp only [Act.put, List.setIfInBounds_toArray, List.set_cons_zero, List.set_cons_succ]
      refine wpAnyH_ready (rs := [27]) (by kernel_rfl) (by simp) ?_
      refine AllReadyH.consL rfl (fun K hK => ?_) AllReadyH.nil
      go_simp
      refine hK.out _ _ ⟨((Ext.refl wr).drew.alloc _).cell c0, ((Ext.refl wr).drew.alloc _).cell c1, ((Ext.refl wr).drew.alloc _).cell c2, ((Ext.refl wr).drew.alloc _).cell c3, ((Ext.refl wr).drew.alloc _).cell c4⟩ (fun hSR1 => ?_)
      clear hK K
      try simp only [Act.put, List.setIfInBounds_toArray, List.set_cons_zero, List.set_cons_succ]
      refine wpAnyH_ready (rs := [28]) (by kernel_rfl) (by simp) ?_
      refine AllReadyH.consL rfl (fun K hK => ?_) AllReadyH.nil
      refine step_app1 rfl (.tmp 11) (.tmp 38) 25 rfl w.heap.size 43 i0 _ 5 80 Try.underlying25 HI.out HZ0.out HZ1.out HZ2.out rfl fnR rfl (.slice A' k c') (l.take k) rfl HO0.out f rfl ⟨_, _, rfl, HB.out.mono (fun b' hb' _ => ⟨hb', fun e => by have := HO0.out.block b' e.symm; omega⟩), HCL.out.mono (fun b' hb' _ => ⟨hb', fun e => by have := HO0.out.block b' e.symm; omega⟩), hel, HNM.out⟩ (by have := HKL.out; omega) (by have := HKL.out; omega) (by exact HX0.out.size) ?_
      intro A2 c2' w3 hown3 hg3
      rw [HKL.out] at hown3
      have HO3 := hid hown3
      have HX3 := hid ((HX0.out.alloc _).grown hg3 (fun k hk => (HO0.out.block _ hk).1))
      have HS3 := hid (hg3.block b (by have h : b < wr.heap.size := World.block_lt_of_cell? _ _ c0; simp; omega) (fun e => by have := HO0.out.block b e.symm; have := HBL.out; omega))
      clear hown3 hg3
      rw [HKL.out]
      refine hK.out _ _ ⟨(World.cell?_of_block HS3.out).trans (((Ext.refl wr).drew.alloc _).cell c0), (World.cell?_of_block HS3.out).trans (((Ext.refl wr).drew.alloc _).cell c1), (World.cell?_of_block HS3.out).trans (((Ext.refl wr).drew.alloc _).cell c2), (World.cell?_of_block HS3.out).trans (((Ext.refl wr).drew.alloc _).cell c3), (World.cell?_of_block HS3.out).trans (((Ext.refl wr).drew.alloc _).cell c4)⟩ (fun hSR2 => ?_)
      clear hK K
      try simp only [Act.put, List.setIfInBounds_toArray, List.set_cons_zero, List.set_cons_succ]
      refine wpAnyH_takeL (i := 29) (v := ?Rv29) rfl (by kernel_rfl) (by kernel_rfl) (by kernel_rfl) (fun _ _ _ h => h) (Or.inl ⟨by rfl, ?Ry29⟩) (by assumption) ?Rr29
      case Ry29 => first | (intro w hSw; (try dsimp only at hSw); go_simp; done) | (intro w hSw; (try dsimp only at hSw); go_simp; with_reducible rfl)
      case' Rr29 => try simp only [Act.put, List.setIfInBounds_toArray, List.set_cons_zero, List.set_cons_succ]
      refine wpAnyH_done (by kernel_rfl) ?_ _
      go_wp2
      first
        | go_roundw
        | refine ⟨?rel, ?measure⟩
      case rel => exact ⟨k + 1, A2, c2', by omega, by go_num, rfl, hid (by rw [take_snoc' HFK.out]; exact HO3.out), HX3⟩
      case measure => simp [intOf]; omega
    · obtain rfl : n = k := by omega
      go_wp2
      go_ret
      have e1 : l.take n = l := List.take_of_length_le (by have := HLN.out; omega)
      have ho := hown.out
      rw [e1, HLN.out] at ho
      exact ⟨hx.out, A', c', by rw [← HLN.out]; rfl, ho.sl⟩

/-! ### the reference: index, Entries, Callees, Callers -/
set_option maxRecDepth 100000 in
set_option maxHeartbeats 400000 in
theorem rindex_any (w : World) (S : Nat → Prop) (A : Option Addr) (n c : Nat) (l : List Fn18) (hl : Sl fnR w S (.slice A n c) l) (a : Nat) :
    Calls Try.prog 32 #[.slice A n c, .int .u32 a] w fun e w' => e = .returned (.int .i64 (ixFn l a)) ∧ w = w' := by
  have hln := hl.len
  obtain ⟨hnc, hcm⟩ := hl.cap
  obtain ⟨r, hr⟩ : ∃ r, ixFn l a = r := ⟨_, rfl⟩
  rw [hr]
  have HR := hid hr; clear hr
  have HS := hid hl; clear hl
  have HL := hid hln; clear hln
  go_enter Try.func32, Try.ntmps32
  go_wp2
  go_loop [5] (fun i => ∃ k : Nat, k ≤ n ∧ i = .int .i64 k ∧ Hid (∀ j, j < k → ∀ y, l[j]? = some y → (y.entry == a) = false)) (fun i => n - (intOf i).toNat)
  case atStart => exact ⟨0, by omega, rfl, hid (by omega)⟩
  case round =>
    obtain ⟨k, hk, rfl, ha⟩ := hrel
    by_cases h1 : k < n
    · obtain ⟨f, hf⟩ : ∃ f, l[k]? = some f := ⟨_, List.getElem?_eq_getElem (by have := HL.out; omega)⟩
      obtain ⟨b, off, bA, bc, cA, cc, rfl, -, -, hel, -, c0, c1, c2, c3, c4⟩ := Sl_fn_at HS.out hf
      have HK := hid hf; clear hf
      obtain ⟨x, hx⟩ : ∃ x, f.entry = x := ⟨_, rfl⟩
      rw [hx] at c0 hel
      have HX := hid hx; clear hx
      by_cases h2 : x = a
      · subst h2
        have h3 : ((x : Int) == (x : Int)) = true := by simp
        go_wp2
        go_ret
        exact ⟨ret_int (by rw [← HR.out]; exact (ixFn_hit ha.out HK.out (by rw [HX.out]; simp)).symm), rfl⟩
      · have h3 : ((x : Int) == (a : Int)) = false := by simp; omega
        go_wp2
        go_round
        case rel =>
          refine ⟨k + 1, by omega, by go_num, hid fun j hj y hy => ?_⟩
          rcases Nat.lt_or_ge j k with h | h
          · exact ha.out j h y hy
          · obtain rfl : j = k := by omega
            have := HK.out.symm.trans hy
            injection this with this
            subst this
            rw [HX.out]
            simpa using h2
        case measure => simp [intOf]; omega
    · go_wp2
      go_ret
      exact ⟨ret_int (by rw [← HR.out]; exact (ixFn_miss (fun j hj => ha.out j (by have := HL.out; omega))).symm), rfl⟩

set_option maxRecDepth 100000 in
set_option maxHeartbeats 1000000 in
theorem rentries_any (w : World) (A : Option Addr) (n c : Nat) (l : List Fn18) (hl : Sl fnR w All (.slice A n c) l) (hn : n ≤ 1000) :
    Calls Try.prog 11 #[.slice A n c] w (ListOf w (entriesOf l)) := by
  have hln := hl.len
  obtain ⟨hnc, hcm⟩ := hl.cap
  obtain ⟨L, hL⟩ : ∃ L, entriesOf l = L := ⟨_, rfl⟩
  rw [hL]
  have HLL := hid hL; clear hL
  have HS := hid hl; clear hl
  have HL := hid hln; clear hln
  go_enter Try.func11, Try.ntmps11
  go_wp2
  go_loopw [3, 4] (fun v i wr => ∃ (k : Nat) (A' : Option Addr) (c' : Nat) (M : List Nat), k ≤ n ∧ i = .int .i64 k ∧ v = .slice A' M.length c' ∧ Hid (Sl u32R wr All (.slice A' M.length c') M) ∧ Hid (Ext w wr) ∧ Hid (M = asc ((l.take k).map (·.entry)))) (fun _ i _ => n - (intOf i).toNat)
  case atStart => exact ⟨0, none, 0, [], by omega, rfl, rfl, hid Sl.nil, hid (Ext.refl _), hid (by simp [asc])⟩
  case round =>
    obtain ⟨k, A', c', M, hk, rfl, rfl, hs, hx, hM⟩ := hrel
    by_cases h1 : k < n
    · obtain ⟨f, hf⟩ : ∃ f, l[k]? = some f := ⟨_, List.getElem?_eq_getElem (by have := HL.out; omega)⟩
      obtain ⟨b, off, bA, bc, cA, cc, rfl, -, -, hel, -, c0, c1, c2, c3, c4⟩ := Sl_fn_at (HS.out.ext hx.out) hf
      have HK := hid hf; clear hf
      have hMl : M.length ≤ 1000 := by
        have h2 := asc_len ((l.take k).map (·.entry))
        rw [List.length_map, List.length_take] at h2
        rw [hM.out]
        omega
      go_wp2_with fail
      refine (insert_any wr wr (Ext.refl _) A' M.length c' M hs.out (by omega) f.entry hel).mono ?_
      rintro e w1 ⟨hx1, A1, c1', rfl, hs1⟩
      have HX1 := hid (hx.out.trans hx1)
      have HS1 := hid hs1
      clear hx1 hs1
      go_wp2
      first
        | go_roundw
        | refine ⟨?rel, ?measure⟩
      case rel => exact ⟨k + 1, A1, c1', insOf M f.entry, by omega, by go_num, rfl, HS1, HX1, hid (by rw [take_snoc' HK.out, List.map_append, hM.out]; exact (asc_snoc _ _).symm)⟩
      case measure => simp [intOf]; omega
    · obtain rfl : k = n := by omega
      have e1 : l.take k = l := List.take_of_length_le (by have := HL.out; omega)
      have hML : M = L := by rw [hM.out, e1, ← HLL.out, entriesOf]
      subst hML
      go_wp2
      go_ret
      exact ⟨hx.out, A', c', rfl, hs.out⟩
end Go.Proofs.Ytnlmhnbogleijaa
