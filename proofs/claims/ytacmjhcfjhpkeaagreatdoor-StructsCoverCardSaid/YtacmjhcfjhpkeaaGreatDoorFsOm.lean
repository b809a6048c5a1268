/- cmp.Compare at int; structs.groups' comparison of fields. -/
import Derived.Test.YtacmjhcfjhpkeaaGreatDoorRows
import Derived.Test.YtacmjhcfjhpkeaaGreatDoorPlam
import Derived.Test.YtacmjhcfjhpkeaaGreatDoorPlbm
import Derived.BigQuiet
namespace Go.Proofs.YtacmjhcfjhpkeaaGreatDoor
open Go.RowKit Go.Deco
set_option linter.unusedSimpArgs false
set_option linter.unusedVariables false

def cmpZ (a b : Int) : Int := if a < b then -1 else if b < a then 1 else 0
def IntIs (w : World) (z : Int) (e : Ending) (w' : World) : Prop := e = .returned (.int .i64 z) ∧ w = w'
set_option maxRecDepth 100000 in
set_option maxHeartbeats 1000000 in
theorem isnan_any (w : World) (a : Int) : Calls Tryz.prog 113 #[.int .i64 a] w fun e w' => e = .returned (.bool false) ∧ w = w' := by
 have h : (a != a) = false := by simp
 go_enter Tryz.func113, Tryz.ntmps113
 go_wp2
 go_ret
 exact ⟨rfl, rfl⟩
set_option maxRecDepth 100000 in
set_option maxHeartbeats 1000000 in
theorem cmpi_any (w : World) (a b : Int) : Calls Tryz.prog 84 #[.int .i64 a, .int .i64 b] w (IntIs w (cmpZ a b)) := by
 obtain ⟨z, hz⟩ : ∃ z, cmpZ a b = z := ⟨_, rfl⟩
 rw [hz]
 unfold cmpZ at hz
 by_cases h1 : a < b
 ·obtain rfl : z = -1 := by rw [← hz, if_pos h1]
  clear hz
  go_enter Tryz.func84, Tryz.ntmps84
  go_wp2_with (go_at_call 113; refine (isnan_any _ _).mono ?_; rintro e w' ⟨rfl, rfl⟩)
  go_ret
  exact ⟨rfl, rfl⟩
 ·by_cases h2 : b < a
  ·obtain rfl : z = 1 := by rw [← hz, if_neg h1, if_pos h2]
   clear hz
   go_enter Tryz.func84, Tryz.ntmps84
   go_wp2_with (go_at_call 113; refine (isnan_any _ _).mono ?_; rintro e w' ⟨rfl, rfl⟩)
   go_ret
   exact ⟨rfl, rfl⟩
  ·obtain rfl : z = 0 := by rw [← hz, if_neg h1, if_neg h2]
   clear hz
   go_enter Tryz.func84, Tryz.ntmps84
   go_wp2_with (go_at_call 113; refine (isnan_any _ _).mono ?_; rintro e w' ⟨rfl, rfl⟩)
   go_ret
   exact ⟨rfl, rfl⟩
theorem call_ord : ∀ args w, (callFunc 83 args).run Tryz.prog w = .ok (.enter 83 args) w := fun args w => callFunc_enter Tryz.func83 (by kernel_rfl) rfl args w
set_option maxRecDepth 100000 in
set_option maxHeartbeats 1000000 in
/-- The comparison that the sort is handed. -/
theorem cmp_raw (w : World) (s t : Raw) : Calls Tryz.prog 83 #[.agg #[.int .i64 s.off, .int .i64 s.kind, .int .i64 s.size, .int .i64 s.count, .slice s.A s.n s.c, .slice s.B s.m s.e], .agg #[.int .i64 t.off, .int .i64 t.kind, .int .i64 t.size, .int .i64 t.count, .slice t.A t.n t.c, .slice t.B t.m t.e]] w fun e w' => (∃ z : Int, e = .returned (.int .i64 z) ∧ decide (z < 0) = ltRw s t) ∧ Ext w w' := by
 have hc : decide (cmpZ s.off t.off < 0) = ltRw s t := by
  unfold cmpZ ltRw
  by_cases h1 : s.off < t.off
  ·simp [h1]
  ·by_cases h2 : t.off < s.off <;> simp [h1, h2]
 have HC := hid hc
 clear hc
 obtain ⟨z, hz⟩ : ∃ z, cmpZ s.off t.off = z := ⟨_, rfl⟩
 have hp := cmpi_any
 have HP := hid (fun w' => hp w' s.off t.off)
 rw [hz] at HC HP
 clear hz hp
 suffices h : Calls Tryz.prog 83 #[.agg #[.int .i64 s.off, .int .i64 s.kind, .int .i64 s.size, .int .i64 s.count, .slice s.A s.n s.c, .slice s.B s.m s.e], .agg #[.int .i64 t.off, .int .i64 t.kind, .int .i64 t.size, .int .i64 t.count, .slice t.A t.n t.c, .slice t.B t.m t.e]] w (fun e w' => e = .returned (.int .i64 z) ∧ Ext w w') from h.mono fun e w' h => ⟨⟨z, h.1, HC.out⟩, h.2⟩
 go_enter Tryz.func83, Tryz.ntmps83
 go_wp2_with fail
 refine (HP.out _).mono ?_
 rintro e w1 ⟨rfl, rfl⟩
 go_wp2
 go_ret
 exact ⟨rfl, ((Ext.refl w).alloc _).alloc _⟩
end Go.Proofs.YtacmjhcfjhpkeaaGreatDoor
