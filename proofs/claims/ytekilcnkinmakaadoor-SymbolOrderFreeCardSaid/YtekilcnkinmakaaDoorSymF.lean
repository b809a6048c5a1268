/- symbol.Name. -/
import Derived.Test.YtekilcnkinmakaaDoorSymE
import Derived.Test.YtekilcnkinmakaaDoorHex
namespace Go.Proofs.YtekilcnkinmakaaDoor
open Go.RowKit Go.Deco
set_option linter.unusedSimpArgs false
set_option linter.unusedVariables false

/-- The name of an address. -/
def nameAt (l : List Sy) (a : Nat) : ByteArray := match nearSy l a with
  | none => hexS a
  | some s => if a = s.addr then s.name else s.name ++ ⟨#[43]⟩ ++ hexS (a - s.addr)
/-- A string. -/
def StrIs (w : World) (s : ByteArray) (e : Ending) (w' : World) : Prop := e = .returned (.string s) ∧ Ext w w'
theorem hexS_size (n : Nat) : (hexS n).size ≤ 11 := by
  rw [hexS, strOf_size]
  have := hexN_len 8 n
  simp [hexD]
  omega

set_option maxRecDepth 100000 in
set_option maxHeartbeats 2000000 in
theorem syname2_any (w : World) (ht : TabAt w) (A : Option Addr) (n c : Nat) (l : List Sy) (hl : Sl symR w All (.slice A n c) l) (a : Nat) (ha : a < 4294967296) (hsz : ∀ s ∈ l, s.name.size ≤ 4096) :
    Calls Tryd.prog 16 #[.slice A n c, .int .u32 a] w (StrIs w (nameAt l a)) := by
  obtain ⟨o, ho⟩ : ∃ o, nearSy l a = o := ⟨_, rfl⟩
  obtain ⟨z, hz⟩ : ∃ z, nameAt l a = z := ⟨_, rfl⟩
  rw [hz]
  unfold nameAt at hz
  rw [ho] at hz
  have HL := hid hl
  clear hl
  go_enter Tryd.func16, Tryd.ntmps16
  go_wp2_with fail
  refine (synear_any w A n c l HL.out a ha).mono ?_
  rintro e w1 ⟨hx1, rfl⟩
  rw [ho]
  have HT := hid (ht.ext hx1)
  have HX := hid hx1
  clear hx1 ht
  cases o with
  | none =>
    have HZ := hid hz
    clear hz ho hsz
    simp only [Option.getD_none, Option.isSome_none, syVal, Sy.zero]
    go_wp2_with fail
    refine (hex_any _ (HT.out.ext ((Ext.refl w1).alloc _)) a ha).mono ?_
    rintro e w2 ⟨rfl, hx2⟩
    have HX2 := hid (HX.out.trans (((Ext.refl w1).alloc _).trans hx2))
    clear hx2
    rw [show hexS a = z from HZ.out]
    go_wp2
    go_ret
    exact ⟨rfl, HX2.out⟩
  | some s =>
    obtain ⟨-, -, hm, hle, -, -⟩ := nearSy_some ho
    have hs := hsz s hm
    simp only [Option.getD_some, Option.isSome_some, syVal, distOf]
    obtain ⟨nm, hnm⟩ : ∃ nm, s.name = nm := ⟨_, rfl⟩
    rw [hnm] at hs ⊢
    by_cases h1 : a = s.addr
    · have e0 : a - s.addr = 0 := by omega
      rw [e0]
      have hz2 : z = nm := by rw [← hz]; show (if a = s.addr then _ else _) = _; rw [if_pos h1, hnm]
      subst hz2
      clear hz ho hsz hm hnm hle h1 e0
      go_wp2
      go_ret
      exact ⟨rfl, HX.out.alloc _⟩
    · obtain ⟨d, hd⟩ : ∃ d, a - s.addr = d := ⟨_, rfl⟩
      rw [hd]
      have hd0 : 0 < d := by omega
      have hd1 : d < 4294967296 := by omega
      have hz2 : nm ++ ⟨#[43]⟩ ++ hexS d = z := by rw [← hz]; show _ = (if a = s.addr then _ else _); rw [if_neg h1, hnm, hd]
      have HZ := hid hz2
      have e1 : ((d : Int) == 0) = false := by simp; omega
      have hhs := hexS_size d
      have hh : nm.size + (⟨#[43]⟩ : ByteArray).size + (hexS d).size ≤ 5000 := by
        have : (⟨#[43]⟩ : ByteArray).size = 1 := rfl
        omega
      have hh2 : (nm ++ (⟨#[43]⟩ : ByteArray)).size ≤ 4097 := by
        rw [ByteArray.size_append]
        have : (⟨#[43]⟩ : ByteArray).size = 1 := rfl
        omega
      have k1 : ¬ 9223372036854775807 < nm.size + 1 := by omega
      have k2 : ¬ 9223372036854775807 < nm.size + 1 + (hexS d).size := by omega
      clear hh hh2
      obtain ⟨W2, hW2⟩ : ∃ W2, w1.alloc (.cells #[.string nm, .int .u32 s.addr, .int .i64 s.kind] 27) = W2 := ⟨_, rfl⟩
      have hE2 : Ext w1 W2 := by rw [← hW2]; exact (Ext.refl w1).alloc _
      have c0 : W2.cell? ⟨w1.heap.size, 0, none⟩ = some (.string nm) := by rw [← hW2]; simp [go_sem]
      have HT2 := hid (HT.out.ext hE2)
      have HX2 := hid (HX.out.trans hE2)
      clear hz ho hsz hm hnm hle h1 hz2 hE2
      go_wp2_with fail
      clear hW2
      refine wp_region_held_drew (S := (fun w' => w'.cell? ⟨w1.heap.size, 0, none⟩ = some (.string nm) ∧ True)) (by kernel_rfl) ⟨c0, trivial⟩ (fun hSR0 => ?_)
      refine wpAnyH_takeL (i := 0) (v := ?Rv0) rfl (by kernel_rfl) (by kernel_rfl) (by kernel_rfl) (fun _ _ _ h => h) (Or.inl ⟨by rfl, ?Ry0⟩) (by assumption) ?Rr0
      case Ry0 => first | (intro w hSw; (try dsimp only at hSw); go_simp; done) | (intro w hSw; (try dsimp only at hSw); go_simp; with_reducible rfl)
      case' Rr0 => try simp only [Act.put, List.setIfInBounds_toArray, List.set_cons_zero, List.set_cons_succ]
      refine wpAnyH_takeL (i := 1) (v := ?Rv1) rfl (by kernel_rfl) (by kernel_rfl) (by kernel_rfl) (fun _ _ _ h => h) (Or.inl ⟨by rfl, ?Ry1⟩) (by assumption) ?Rr1
      case Ry1 => first | (intro w hSw; (try dsimp only at hSw); go_simp; done) | (intro w hSw; (try dsimp only at hSw); go_simp; with_reducible rfl)
      case' Rr1 => try simp only [Act.put, List.setIfInBounds_toArray, List.set_cons_zero, List.set_cons_succ]
      refine wpAnyH_takeL (i := 2) (v := ?Rv2) rfl (by kernel_rfl) (by kernel_rfl) (by kernel_rfl) (fun _ _ _ h => h) (Or.inl ⟨by rfl, ?Ry2⟩) (by assumption) ?Rr2
      case Ry2 => first | (intro w hSw; (try dsimp only at hSw); go_simp; done) | (intro w hSw; (try dsimp only at hSw); go_simp; with_reducible rfl)
      case' Rr2 => try simp only [Act.put, List.setIfInBounds_toArray, List.set_cons_zero, List.set_cons_succ]
      refine wpAnyH_takeL (i := 3) (v := ?Rv3) rfl (by kernel_rfl) (by kernel_rfl) (by kernel_rfl) (fun _ _ _ h => h) (Or.inl ⟨by rfl, ?Ry3⟩) (by assumption) ?Rr3
      case Ry3 => first | (intro w hSw; (try dsimp only at hSw); go_simp; done) | (intro w hSw; (try dsimp only at hSw); go_simp; with_reducible rfl)
      case' Rr3 => try simp only [Act.put, List.setIfInBounds_toArray, List.set_cons_zero, List.set_cons_succ]
      refine wpAnyH_ready (rs := [4]) (by kernel_rfl) (by simp) ?_
      refine AllReadyH.consL rfl (fun K hK => ?_) AllReadyH.nil
      go_simp
      go_at_call 33
      refine (hex_any _ (HT2.out.ext (Ext.refl W2).drew) d hd1).mono ?_
      rintro e w3 ⟨rfl, hx3⟩
      have HX3 := hid (HX2.out.trans hx3.drew_left)
      have HX33 := hid hx3.drew_left
      clear hx3
      refine hK.out _ _ ⟨HX33.out.cell c0, trivial⟩ (fun hSR1 => ?_)
      clear hK K
      try simp only [Act.put, List.setIfInBounds_toArray, List.set_cons_zero, List.set_cons_succ]
      refine wpAnyH_takeL (i := 5) (v := ?Rv5) rfl (by kernel_rfl) (by kernel_rfl) (by kernel_rfl) (fun _ _ _ h => h) (Or.inl ⟨by rfl, ?Ry5⟩) (by assumption) ?Rr5
      case Ry5 => first | (intro w hSw; (try dsimp only at hSw); go_simp; done) | (intro w hSw; (try dsimp only at hSw); go_simp; with_reducible rfl)
      case' Rr5 => try simp only [Act.put, List.setIfInBounds_toArray, List.set_cons_zero, List.set_cons_succ]
      refine wpAnyH_takeL (i := 6) (v := ?Rv6) rfl (by kernel_rfl) (by kernel_rfl) (by kernel_rfl) (fun _ _ _ h => h) (Or.inl ⟨by rfl, ?Ry6⟩) (by assumption) ?Rr6
      case Ry6 => first | (intro w hSw; (try dsimp only at hSw); go_simp; done) | (intro w hSw; (try dsimp only at hSw); go_simp; with_reducible rfl)
      case' Rr6 => try simp only [Act.put, List.setIfInBounds_toArray, List.set_cons_zero, List.set_cons_succ]
      refine wpAnyH_done (by kernel_rfl) ?_ _
      go_wp2
      go_ret
      have hz := HZ.out
      subst hz
      exact ⟨rfl, HX3.out⟩
end Go.Proofs.YtekilcnkinmakaaDoor
