/- reloc: Value; decompilerref07: Value. -/
import Derived.Test.YtnlofhbimfcejaaRelB
namespace Go.Proofs.Ytnlofhbimfcejaa
open Go.RowKit Go.Deco
set_option linter.unusedSimpArgs false
set_option linter.unusedVariables false

def ValIs (w : World) (v : Nat × Nat) (e : Ending) (w' : World) : Prop := e = .returned (.tuple #[.int .u32 v.1, .int .i64 v.2]) ∧ Ext w w'
theorem w32_add (a b : Int) : w32 (a + (w32 b : Nat)) = w32 (a + b) := by unfold w32; omega
theorem w32_addR (a b : Int) : w32 (a + (w32 b : Nat)) = w32 (a + b) := w32_add a b
theorem w32_sub (a b : Int) : w32 ((w32 a : Nat) - b) = w32 (a - b) := by unfold w32; omega
theorem w32_subr (a b : Int) : w32 ((w32 a : Nat) - (w32 b : Nat)) = w32 (a - b) := by unfold w32; omega

set_option maxRecDepth 100000 in
set_option maxHeartbeats 1000000 in
theorem rlvalue_any (w : World) (r : Rl) (p t : Nat) :
    Calls Try.prog 17 #[.agg #[.int .i64 r.sec, .int .i64 r.off, .int .i64 r.kind, .string r.sym, .int .i32 r.add], .int .u32 p, .int .u32 t] w (ValIs w (relVal r p t)) := by
  obtain ⟨z, hz⟩ : ∃ z, relVal r p t = z := ⟨_, rfl⟩
  rw [hz]
  obtain ⟨sec, off, kd, sym, add⟩ := r
  dsimp only at hz ⊢
  have HZ := hid hz
  clear hz
  have hx : Ext w (w.alloc (.cells #[.int .i64 sec, .int .i64 off, .int .i64 kd, .string sym, .int .i32 add] 36)) := (Ext.refl w).alloc _
  have HX := hid hx
  obtain ⟨a, hA⟩ : ∃ a : Nat, w32 add = a := ⟨_, rfl⟩
  obtain ⟨n, hN⟩ : ∃ n : Nat, w32 (t + add) = n := ⟨_, rfl⟩
  obtain ⟨m, hM⟩ : ∃ m : Nat, w32 (t + add - p) = m := ⟨_, rfl⟩
  obtain ⟨q, hQ⟩ : ∃ q : Nat, w32 (t + add - p - 4) = q := ⟨_, rfl⟩
  have e1 : IntKind.u32.wrap add = (a : Int) := by rw [wrap_w32, hA]
  have e2 : IntKind.u32.wrap ((t : Int) + a) = (n : Int) := by rw [wrap_w32, ← hA, w32_add, hN]
  have e3 : IntKind.u32.wrap ((n : Int) - p) = (m : Int) := by rw [wrap_w32, ← hN, w32_sub, hM]
  have e4 : IntKind.u32.wrap ((m : Int) - 4) = (q : Int) := by rw [wrap_w32, ← hM, w32_sub, hQ]
  have HN := hid hN
  have HQ := hid hQ
  clear hx hA hN hM hQ
  by_cases h1 : kd = 1
  · subst h1
    obtain rfl : (n, 0) = z := by rw [← HZ.out, relVal, if_pos rfl, ← HN.out]
    go_enter Try.func17, Try.ntmps17
    go_wp2
    go_ret2
    exact ⟨rfl, HX.out⟩
  · by_cases h2 : kd = 2
    · subst h2
      obtain rfl : (q, 0) = z := by rw [← HZ.out, relVal, if_neg (by simp), if_pos rfl, ← HQ.out]
      go_enter Try.func17, Try.ntmps17
      go_wp2
      go_ret2
      exact ⟨rfl, HX.out⟩
    · obtain rfl : (0, 2) = z := by rw [← HZ.out, relVal, if_neg h1, if_neg h2]
      have q1 : (kd == 1) = false := by simpa using h1
      have q2 : (kd == 2) = false := by simpa using h2
      clear h1 h2
      go_enter Try.func17, Try.ntmps17
      go_wp2
      go_ret2
      exact ⟨rfl, HX.out⟩

set_option maxRecDepth 100000 in
set_option maxHeartbeats 1000000 in
theorem value7_any (w : World) (r : Rl) (p t : Nat) :
    Calls Try.prog 18 #[.agg #[.int .i64 r.sec, .int .i64 r.off, .int .i64 r.kind, .string r.sym, .int .i32 r.add], .int .u32 p, .int .u32 t] w (ValIs w (relVal r p t)) := by
  obtain ⟨z, hz⟩ : ∃ z, relVal r p t = z := ⟨_, rfl⟩
  rw [hz]
  obtain ⟨sec, off, kd, sym, add⟩ := r
  dsimp only at hz ⊢
  have HZ := hid hz
  clear hz
  have hx : Ext w (w.alloc (.cells #[.int .i64 sec, .int .i64 off, .int .i64 kd, .string sym, .int .i32 add] 36)) := (Ext.refl w).alloc _
  have HX := hid hx
  obtain ⟨a, hA⟩ : ∃ a : Nat, w32 add = a := ⟨_, rfl⟩
  obtain ⟨n, hN⟩ : ∃ n : Nat, w32 (t + add) = n := ⟨_, rfl⟩
  obtain ⟨m, hM⟩ : ∃ m : Nat, w32 ((p : Int) + 4) = m := ⟨_, rfl⟩
  obtain ⟨q, hQ⟩ : ∃ q : Nat, w32 (t + add - p - 4) = q := ⟨_, rfl⟩
  have e1 : IntKind.u32.wrap add = (a : Int) := by rw [wrap_w32, hA]
  have e2 : IntKind.u32.wrap ((t : Int) + a) = (n : Int) := by rw [wrap_w32, ← hA, w32_add, hN]
  have e3 : IntKind.u32.wrap ((p : Int) + 4) = (m : Int) := by rw [wrap_w32, hM]
  have e4 : IntKind.u32.wrap ((n : Int) - m) = (q : Int) := by rw [wrap_w32, ← hN, ← hM, w32_subr, show (t : Int) + add - (p + 4) = t + add - p - 4 by omega, hQ]
  have HN := hid hN
  have HQ := hid hQ
  clear hx hA hN hM hQ
  by_cases h1 : kd = 1
  · subst h1
    obtain rfl : (n, 0) = z := by rw [← HZ.out, relVal, if_pos rfl, ← HN.out]
    go_enter Try.func18, Try.ntmps18
    go_wp2
    go_ret2
    exact ⟨rfl, HX.out⟩
  · by_cases h2 : kd = 2
    · subst h2
      obtain rfl : (q, 0) = z := by rw [← HZ.out, relVal, if_neg (by simp), if_pos rfl, ← HQ.out]
      go_enter Try.func18, Try.ntmps18
      go_wp2
      go_ret2
      exact ⟨rfl, HX.out⟩
    · obtain rfl : (0, 2) = z := by rw [← HZ.out, relVal, if_neg h1, if_neg h2]
      have q1 : (kd == 1) = false := by simpa using h1
      have q2 : (kd == 2) = false := by simpa using h2
      clear h1 h2
      go_enter Try.func18, Try.ntmps18
      go_wp2
      go_ret2
      exact ⟨rfl, HX.out⟩
end Go.Proofs.Ytnlofhbimfcejaa
