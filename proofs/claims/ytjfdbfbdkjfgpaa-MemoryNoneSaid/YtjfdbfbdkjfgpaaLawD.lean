/- The methods of a memory that New did not create. -/
import Derived.Test.YtjfdbfbdkjfgpaaMemA
import Derived.Test.YtjfdbfbdkjfgpaaLawB
namespace Go.Proofs.Ytjfdbfbdkjfgpaa
open Go.RowKit Go.Deco

/-- nil, or a memory without a map. -/
def Unmade (w : World) (v : Value) : Prop := v = .pointer none ∨ ∃ b, v = .pointer (some ⟨b, 0, none⟩) ∧ w.cell? ⟨b, 1, none⟩ = some (.map none)
theorem Unmade.ext {w w' : World} {v : Value} (h : Unmade w v) (he : Ext w w') : Unmade w' v := by
  rcases h with h | ⟨b, h1, h2⟩
  · exact .inl h
  · exact .inr ⟨b, h1, he.cell h2⟩

def RetSame (w : World) (v : Value) (e : Ending) (w' : World) : Prop := e = .returned v ∧ w = w'

set_option maxRecDepth 100000 in
set_option maxHeartbeats 400000 in
theorem made_no (w : World) (v : Value) (h : Unmade w v) : Calls Try.prog 29 #[v] w (RetSame w (.bool false)) := by
  have hz := fun (w : World) (r : Option Nat) => run_neq_map_nil (P := Try.prog) w 61 23 5 r Try.underlying61
  rcases h with rfl | ⟨b, rfl, h⟩
  all_goals
    go_enter Try.func29, Try.ntmps29
    go_wp2
    go_ret
    exact ⟨rfl, rfl⟩

set_option maxRecDepth 100000 in
set_option maxHeartbeats 400000 in
theorem load_no (w : World) (v : Value) (h : Unmade w v) (a q : Int) : Calls Try.prog 13 #[v, .int .u32 a, .int .i64 q] w (RetSame w (.tuple #[.int .u32 0, .int .i64 1])) := by
  have hm := hid (made_no w v h)
  clear h
  go_enter Try.func13, Try.ntmps13
  go_wp2_with fail
  refine hm.out.mono ?_
  rintro e w' ⟨rfl, rfl⟩
  go_wp2
  go_ret2
  exact ⟨rfl, rfl⟩

set_option maxRecDepth 100000 in
set_option maxHeartbeats 400000 in
theorem store_no (w : World) (v : Value) (h : Unmade w v) (a q x : Int) : Calls Try.prog 14 #[v, .int .u32 a, .int .i64 q, .int .u32 x] w (RetSame w (.int .i64 1)) := by
  have hm := hid (made_no w v h)
  clear h
  go_enter Try.func14, Try.ntmps14
  go_wp2_with fail
  refine hm.out.mono ?_
  rintro e w' ⟨rfl, rfl⟩
  go_wp2
  go_ret
  exact ⟨rfl, rfl⟩

set_option maxRecDepth 100000 in
set_option maxHeartbeats 400000 in
theorem fetch_no (w : World) (v : Value) (h : Unmade w v) (a : Int) : Calls Try.prog 21 #[v, .int .u32 a] w (RetSame w (.tuple #[.slice none 0 0, .int .i64 1])) := by
  have hm := hid (made_no w v h)
  clear h
  go_enter Try.func21, Try.ntmps21
  go_wp2_with fail
  refine hm.out.mono ?_
  rintro e w' ⟨rfl, rfl⟩
  go_wp2
  go_ret2
  exact ⟨rfl, rfl⟩

set_option maxRecDepth 100000 in
set_option maxHeartbeats 400000 in
theorem dump_no (w : World) (v : Value) (h : Unmade w v) (a q : Int) : Calls Try.prog 23 #[v, .int .u32 a, .int .i64 q] w (RetSame w (.tuple #[.slice none 0 0, .int .i64 1])) := by
  have hm := hid (made_no w v h)
  clear h
  go_enter Try.func23, Try.ntmps23
  go_wp2_with fail
  refine hm.out.mono ?_
  rintro e w' ⟨rfl, rfl⟩
  go_wp2
  go_ret2
  exact ⟨rfl, rfl⟩

set_option maxRecDepth 100000 in
set_option maxHeartbeats 400000 in
theorem changes_no (w : World) (v : Value) (h : Unmade w v) : Calls Try.prog 15 #[v] w (RetSame w (.slice none 0 0)) := by
  have hm := hid (made_no w v h)
  clear h
  go_enter Try.func15, Try.ntmps15
  go_wp2_with fail
  refine hm.out.mono ?_
  rintro e w' ⟨rfl, rfl⟩
  go_wp2
  go_ret
  exact ⟨rfl, rfl⟩

set_option maxRecDepth 100000 in
set_option maxHeartbeats 400000 in
theorem clone_no (w : World) (v : Value) (h : Unmade w v) : Calls Try.prog 26 #[v] w (RetSame w (.pointer none)) := by
  have hm := hid (made_no w v h)
  clear h
  go_enter Try.func26, Try.ntmps26
  go_wp2_with fail
  refine hm.out.mono ?_
  rintro e w' ⟨rfl, rfl⟩
  go_wp2
  go_ret
  exact ⟨rfl, rfl⟩
end Go.Proofs.Ytjfdbfbdkjfgpaa
