/- symbol.order, symbol.At. -/
import Derived.Test.YtekilcnkinmakaaDoorSymB
import Derived.Test.YtekilcnkinmakaaDoorSymM
import Derived.Test.YtekilcnkinmakaaDoorReg
namespace Go.Proofs.YtekilcnkinmakaaDoor
open Go.RowKit Go.Deco
set_option linter.unusedSimpArgs false
set_option linter.unusedVariables false

def IntSame (w : World) (n : Int) (e : Ending) (w' : World) : Prop := e = .returned (.int .i64 n) ∧ w = w'
set_option maxRecDepth 100000 in
set_option maxHeartbeats 400000 in
theorem nanu_any (w : World) (x : Nat) : Calls Tryd.prog 60 #[.int .u32 x] w fun e w' => e = .returned (.bool false) ∧ w = w' := by
  go_enter Tryd.func60, Tryd.ntmps60
  go_wp2
  go_ret
  exact ⟨by simp, rfl⟩
set_option maxRecDepth 100000 in
set_option maxHeartbeats 400000 in
theorem nans_any (w : World) (x : ByteArray) : Calls Tryd.prog 61 #[.string x] w fun e w' => e = .returned (.bool false) ∧ w = w' := by
  go_enter Tryd.func61, Tryd.ntmps61
  go_wp2
  go_ret
  exact ⟨by simp, rfl⟩
set_option maxRecDepth 100000 in
set_option maxHeartbeats 400000 in
theorem cmpu_any (w : World) (x y : Nat) : Calls Tryd.prog 45 #[.int .u32 x, .int .u32 y] w (IntSame w (cmpN x y)) := by
  obtain ⟨z, hz⟩ : ∃ z, cmpN x y = z := ⟨_, rfl⟩
  rw [hz]
  unfold cmpN at hz
  by_cases h1 : x < y
  · rw [if_pos h1] at hz
    subst hz
    go_enter Tryd.func45, Tryd.ntmps45
    go_wp2_with (go_at_call 60; refine (nanu_any _ _).mono ?_; rintro e w' ⟨rfl, rfl⟩)
    go_ret
    exact ⟨rfl, rfl⟩
  · rw [if_neg h1] at hz
    by_cases h2 : y < x
    · rw [if_pos h2] at hz
      subst hz
      go_enter Tryd.func45, Tryd.ntmps45
      go_wp2_with (go_at_call 60; refine (nanu_any _ _).mono ?_; rintro e w' ⟨rfl, rfl⟩)
      go_ret
      exact ⟨rfl, rfl⟩
    · rw [if_neg h2] at hz
      subst hz
      go_enter Tryd.func45, Tryd.ntmps45
      go_wp2_with (go_at_call 60; refine (nanu_any _ _).mono ?_; rintro e w' ⟨rfl, rfl⟩)
      go_ret
      exact ⟨rfl, rfl⟩
theorem gt_str (a b : ByteArray) : (!(Op.bytesLess a.toList b.toList || a.toList == b.toList)) = ltK b.data.toList a.data.toList := by
  rw [key_list, key_list]
  show (!(ltK a.data.toList b.data.toList || _)) = _
  cases h1 : ltK a.data.toList b.data.toList with
  | true => rw [ltK_asymm h1]; rfl
  | false =>
    cases h2 : ltK b.data.toList a.data.toList with
    | true =>
      have : (a.data.toList == b.data.toList) = false := by
        rw [beq_eq_false_iff_ne]
        intro e
        rw [e, ltK_irr] at h2
        cases h2
      rw [this]
      rfl
    | false =>
      have := ltK_conn h1 h2
      simp [this]
theorem lt_str (a b : ByteArray) : Op.bytesLess a.toList b.toList = ltK a.data.toList b.data.toList := by rw [key_list, key_list]; rfl
set_option maxRecDepth 100000 in
set_option maxHeartbeats 400000 in
theorem cmps_any (w : World) (x y : ByteArray) : Calls Tryd.prog 46 #[.string x, .string y] w (IntSame w (cmpK x.data.toList y.data.toList)) := by
  obtain ⟨z, hz⟩ : ∃ z, cmpK x.data.toList y.data.toList = z := ⟨_, rfl⟩
  rw [hz]
  unfold cmpK at hz
  obtain ⟨b1, h1⟩ : ∃ b1, ltK x.data.toList y.data.toList = b1 := ⟨_, rfl⟩
  obtain ⟨b2, h2⟩ : ∃ b2, ltK y.data.toList x.data.toList = b2 := ⟨_, rfl⟩
  have e1 : Op.bytesLess x.toList y.toList = b1 := by rw [lt_str, h1]
  have e2 : (!(Op.bytesLess x.toList y.toList || x.toList == y.toList)) = b2 := by rw [gt_str, h2]
  rw [h1, h2] at hz
  rw [e1] at e2
  clear h1 h2
  cases b1
  · cases b2
    · simp at hz
      subst hz
      rw [Bool.false_or] at e2
      go_enter Tryd.func46, Tryd.ntmps46
      go_wp2_with (go_at_call 61; refine (nans_any _ _).mono ?_; rintro e w' ⟨rfl, rfl⟩)
      go_ret
      exact ⟨rfl, rfl⟩
    · simp at hz
      subst hz
      rw [Bool.false_or] at e2
      go_enter Tryd.func46, Tryd.ntmps46
      go_wp2_with (go_at_call 61; refine (nans_any _ _).mono ?_; rintro e w' ⟨rfl, rfl⟩)
      go_ret
      exact ⟨rfl, rfl⟩
  · simp at hz
    subst hz
    clear e2
    go_enter Tryd.func46, Tryd.ntmps46
    go_wp2_with (go_at_call 61; refine (nans_any _ _).mono ?_; rintro e w' ⟨rfl, rfl⟩)
    go_ret
    exact ⟨rfl, rfl⟩
set_option maxRecDepth 100000 in
set_option maxHeartbeats 400000 in
theorem or_any (w : World) (b : Nat) (x y : Int) (c0 : w.cell? ⟨b, 0, none⟩ = some (.int .i64 x)) (c1 : w.cell? ⟨b, 1, none⟩ = some (.int .i64 y)) :
    Calls Tryd.prog 44 #[.slice (some ⟨b, 0, none⟩) 2 2] w (IntSame w (if x ≠ 0 then x else y)) := by
  obtain ⟨z, hz⟩ : ∃ z, (if x ≠ 0 then x else y) = z := ⟨_, rfl⟩
  rw [hz]
  have HZ := hid hz; clear hz
  go_enter Tryd.func44, Tryd.ntmps44
  go_wp2
  go_loop [8] (fun i => ∃ k : Nat, k ≤ 2 ∧ i = .int .i64 k ∧ Hid (0 < k → x = 0) ∧ Hid (1 < k → y = 0)) (fun i => 2 - (intOf i).toNat)
  case atStart => exact ⟨0, by omega, rfl, hid (by omega), hid (by omega)⟩
  case round =>
    obtain ⟨k, hk, rfl, H0, H1⟩ := hrel
    obtain rfl | rfl | rfl : k = 0 ∨ k = 1 ∨ k = 2 := by omega
    · by_cases hx : x = 0
      · have HX := hid hx
        subst hx
        go_wp2
        first
          | go_round
          | refine ⟨?rel, ?measure⟩
        case rel => exact ⟨1, by omega, by first | rfl | go_num, hid (by simp), hid (by omega)⟩
        case measure => simp [intOf]
      · have HX := hid hx
        have hx' : (x != 0) = true := by simpa using hx
        clear hx
        go_wp2
        go_ret
        exact ⟨ret_int (by rw [← HZ.out, if_pos HX.out]), rfl⟩
    · have hx := H0.out (by omega)
      by_cases hy : y = 0
      · have HX := hid hx
        have HY := hid hy
        clear hx
        subst hy
        go_wp2
        first
          | go_round
          | refine ⟨?rel, ?measure⟩
        case rel => exact ⟨2, by omega, by first | rfl | go_num, hid (fun _ => HX.out), hid (by simp)⟩
        case measure => simp [intOf]
      · have HX := hid hx
        have hy' : (y != 0) = true := by simpa using hy
        clear hx hy
        go_wp2
        go_ret
        exact ⟨ret_int (by rw [← HZ.out, if_neg (by have := HX.out; simpa using this)]), rfl⟩
    · have HX := hid (H0.out (by omega))
      have HY := hid (H1.out (by omega))
      go_wp2
      go_ret
      exact ⟨ret_int (by rw [← HZ.out, if_neg (by have := HX.out; simpa using this), HY.out]), rfl⟩
set_option maxRecDepth 100000 in
set_option maxHeartbeats 1000000 in
theorem syorder_any (w : World) (s t : Sy) : Calls Tryd.prog 37 #[syVal s, syVal t] w fun e w' => e = .returned (.int .i64 (cmpS s t)) ∧ Ext w w' := by
  obtain ⟨z, hz⟩ : ∃ z, cmpS s t = z := ⟨_, rfl⟩
  rw [hz]
  have HZ := hid hz; clear hz
  unfold syVal
  obtain ⟨sk, hsk⟩ : ∃ sk, s.kind = sk := ⟨_, rfl⟩
  obtain ⟨tk, htk⟩ : ∃ tk, t.kind = tk := ⟨_, rfl⟩
  rw [hsk, htk]
  clear hsk htk
  obtain ⟨W0, hW0⟩ : ∃ W0, (w.alloc (.cells #[.string s.name, .int .u32 s.addr, .int .i64 sk] 27)).alloc (.cells #[.string t.name, .int .u32 t.addr, .int .i64 tk] 27) = W0 := ⟨_, rfl⟩
  have hE0 : Ext w W0 := by rw [← hW0]; exact ((Ext.refl w).alloc _).alloc _
  have c0 : W0.cell? ⟨w.heap.size, 0, none⟩ = some (.string s.name) := by rw [← hW0]; simp [go_sem]
  have c1 : W0.cell? ⟨w.heap.size, 1, none⟩ = some (.int .u32 s.addr) := by rw [← hW0]; simp [go_sem]
  have d0 : W0.cell? ⟨w.heap.size + 1, 0, none⟩ = some (.string t.name) := by rw [← hW0]; simp [go_sem]
  have d1 : W0.cell? ⟨w.heap.size + 1, 1, none⟩ = some (.int .u32 t.addr) := by rw [← hW0]; simp [go_sem]
  have HE0 := hid hE0
  clear hE0
  go_enter Tryd.func37, Tryd.ntmps37
  go_wp2_with fail
  clear hW0
  refine wp_region_held_drew (S := (fun w' => w'.cell? ⟨w.heap.size, 0, none⟩ = some (.string s.name) ∧ w'.cell? ⟨w.heap.size, 1, none⟩ = some (.int .u32 s.addr) ∧ w'.cell? ⟨w.heap.size + 1, 0, none⟩ = some (.string t.name) ∧ w'.cell? ⟨w.heap.size + 1, 1, none⟩ = some (.int .u32 t.addr))) (by kernel_rfl) ⟨c0, c1, d0, d1⟩ (fun hSR0 => ?_)
  refine wpAnyH_takeL (i := 0) (v := ?Rv0) rfl (by kernel_rfl) (by kernel_rfl) (by kernel_rfl) (fun _ _ _ h => h) (Or.inl ⟨by rfl, ?Ry0⟩) (by assumption) ?Rr0
  case Ry0 => first | (intro w hSw; (try dsimp only at hSw); go_simp; done) | (intro w hSw; (try dsimp only at hSw); go_simp; with_reducible rfl)
  case' Rr0 => try simp only [Act.put, List.setIfInBounds_toArray, List.set_cons_zero, List.set_cons_succ]
  refine wpAnyH_takeL (i := 1) (v := ?Rv1) rfl (by kernel_rfl) (by kernel_rfl) (by kernel_rfl) (fun _ _ _ h => h) (Or.inl ⟨by rfl, ?Ry1⟩) (by assumption) ?Rr1
  case Ry1 => first | (intro w hSw; (try dsimp only at hSw); go_simp; done) | (intro w hSw; (try dsimp only at hSw); go_simp; with_reducible rfl)
  case' Rr1 => try simp only [Act.put, List.setIfInBounds_toArray, List.set_cons_zero, List.set_cons_succ]
  refine wpAnyH_takeL (i := 2) (v := ?Rv2) rfl (by kernel_rfl) (by kernel_rfl) (by kernel_rfl) (fun _ _ _ h => h) (Or.inl ⟨by rfl, ?Ry2⟩) (by assumption) ?Rr2
  case Ry2 => first | (intro w hSw; (try dsimp only at hSw); go_simp; done) | (intro w hSw; (try dsimp only at hSw); go_simp; with_reducible rfl)
  case' Rr2 => try simp only [Act.put, List.setIfInBounds_toArray, List.set_cons_zero, List.set_cons_succ]
  refine wpAnyH_takeL (i := 3) (v := ?Rv3) rfl (by kernel_rfl) (by kernel_rfl) (by kernel_rfl) (fun _ _ _ h => h) (Or.inl ⟨by rfl, ?Ry3⟩) (by assumption) ?Rr3
  case Ry3 => first | (intro w hSw; (try dsimp only at hSw); go_simp; done) | (intro w hSw; (try dsimp only at hSw); go_simp; with_reducible rfl)
  case' Rr3 => try simp only [Act.put, List.setIfInBounds_toArray, List.set_cons_zero, List.set_cons_succ]
  refine wpAnyH_takeL (i := 5) (v := ?Rv5) rfl (by kernel_rfl) (by kernel_rfl) (by kernel_rfl) (fun _ _ _ h => h) (Or.inl ⟨by rfl, ?Ry5⟩) (by assumption) ?Rr5
  case Ry5 => first | (intro w hSw; (try dsimp only at hSw); go_simp; done) | (intro w hSw; (try dsimp only at hSw); go_simp; with_reducible rfl)
  case' Rr5 => try simp only [Act.put, List.setIfInBounds_toArray, List.set_cons_zero, List.set_cons_succ]
  refine wpAnyH_takeL (i := 6) (v := ?Rv6) rfl (by kernel_rfl) (by kernel_rfl) (by kernel_rfl) (fun _ _ _ h => h) (Or.inl ⟨by rfl, ?Ry6⟩) (by assumption) ?Rr6
  case Ry6 => first | (intro w hSw; (try dsimp only at hSw); go_simp; done) | (intro w hSw; (try dsimp only at hSw); go_simp; with_reducible rfl)
  case' Rr6 => try simp only [Act.put, List.setIfInBounds_toArray, List.set_cons_zero, List.set_cons_succ]
  refine wpAnyH_takeL (i := 7) (v := ?Rv7) rfl (by kernel_rfl) (by kernel_rfl) (by kernel_rfl) (fun _ _ _ h => h) (Or.inl ⟨by rfl, ?Ry7⟩) (by assumption) ?Rr7
  case Ry7 => first | (intro w hSw; (try dsimp only at hSw); go_simp; done) | (intro w hSw; (try dsimp only at hSw); go_simp; with_reducible rfl)
  case' Rr7 => try simp only [Act.put, List.setIfInBounds_toArray, List.set_cons_zero, List.set_cons_succ]
  refine wpAnyH_takeL (i := 8) (v := ?Rv8) rfl (by kernel_rfl) (by kernel_rfl) (by kernel_rfl) (fun _ _ _ h => h) (Or.inl ⟨by rfl, ?Ry8⟩) (by assumption) ?Rr8
  case Ry8 => first | (intro w hSw; (try dsimp only at hSw); go_simp; done) | (intro w hSw; (try dsimp only at hSw); go_simp; with_reducible rfl)
  case' Rr8 => try simp only [Act.put, List.setIfInBounds_toArray, List.set_cons_zero, List.set_cons_succ]
  refine wpAnyH_ready (rs := [4]) (by kernel_rfl) (by simp) ?_
  refine AllReadyH.consL rfl (fun K hK => ?_) AllReadyH.nil
  go_simp
  go_at_call 45
  refine (cmpu_any _ _ _).mono ?_
  rintro e w3 ⟨rfl, rfl⟩
  refine hK.out _ _ ⟨c0, c1, d0, d1⟩ (fun hSR1 => ?_)
  clear hK K
  try simp only [Act.put, List.setIfInBounds_toArray, List.set_cons_zero, List.set_cons_succ]
  refine wpAnyH_ready (rs := [9]) (by kernel_rfl) (by simp) ?_
  refine AllReadyH.consL rfl (fun K hK => ?_) AllReadyH.nil
  go_simp
  go_at_call 46
  refine (cmps_any _ _ _).mono ?_
  rintro e w3 ⟨rfl, rfl⟩
  refine hK.out _ _ ⟨c0, c1, d0, d1⟩ (fun hSR2 => ?_)
  clear hK K
  try simp only [Act.put, List.setIfInBounds_toArray, List.set_cons_zero, List.set_cons_succ]
  refine wpAnyH_ready (rs := [10]) (by kernel_rfl) (by simp) ?_
  refine AllReadyH.consL rfl (fun K hK => ?_) AllReadyH.nil
  go_simp
  refine hK.out _ _ ⟨(((Ext.refl W0).alloc _).drew).cell c0, (((Ext.refl W0).alloc _).drew).cell c1, (((Ext.refl W0).alloc _).drew).cell d0, (((Ext.refl W0).alloc _).drew).cell d1⟩ (fun hSR3 => ?_)
  clear hK K
  try simp only [Act.put, List.setIfInBounds_toArray, List.set_cons_zero, List.set_cons_succ]
  refine wpAnyH_ready (rs := [11]) (by kernel_rfl) (by simp) ?_
  refine AllReadyH.consL rfl (fun K hK => ?_) AllReadyH.nil
  go_simp
  go_at_call 44
  refine (or_any _ W0.heap.size (cmpN s.addr t.addr) (cmpK s.name.data.toList t.name.data.toList) (by simp [go_sem]) (by simp [go_sem])).mono ?_
  rintro e w3 ⟨rfl, rfl⟩
  rw [show (if cmpN s.addr t.addr ≠ 0 then cmpN s.addr t.addr else cmpK s.name.data.toList t.name.data.toList) = z from HZ.out]
  refine hK.out _ _ ⟨(((Ext.refl W0).alloc _).drew).cell c0, (((Ext.refl W0).alloc _).drew).cell c1, (((Ext.refl W0).alloc _).drew).cell d0, (((Ext.refl W0).alloc _).drew).cell d1⟩ (fun hSR4 => ?_)
  clear hK K
  try simp only [Act.put, List.setIfInBounds_toArray, List.set_cons_zero, List.set_cons_succ]
  refine wpAnyH_takeL (i := 12) (v := ?Rv12) rfl (by kernel_rfl) (by kernel_rfl) (by kernel_rfl) (fun _ _ _ h => h) (Or.inl ⟨by rfl, ?Ry12⟩) (by assumption) ?Rr12
  case Ry12 => first | (intro w hSw; (try dsimp only at hSw); go_simp; done) | (intro w hSw; (try dsimp only at hSw); go_simp; with_reducible rfl)
  case' Rr12 => try simp only [Act.put, List.setIfInBounds_toArray, List.set_cons_zero, List.set_cons_succ]
  refine wpAnyH_done (by kernel_rfl) ?_ _
  go_wp2
  go_ret
  exact ⟨rfl, HE0.out.trans (((Ext.refl W0).alloc _).drew)⟩
end Go.Proofs.YtekilcnkinmakaaDoor
