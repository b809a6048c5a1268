/- slices.Clone at []byte. -/
import Derived.Test.YtnlofhbimfcejaaRows
import Derived.Test.YtnlofhbimfcejaaBase
namespace Go.Proofs.Ytnlofhbimfcejaa
open Go.RowKit Go.Deco

theorem info_u8 : (Try.prog.info? 5).map (fun i => (i.zero, i.size, i.bytes)) = some (some (.int .u8 0), 1, 1) := by kernel_rfl

/-- Clone: a slice of the call's own that reads alike. -/
def Cloned {E : Type} (R : Rep E) (t : TypeId) (w : World) (n : Nat) (l : List E) (e : Ending) (w' : World) : Prop :=
  ∃ A' c', e = .returned (.slice A' n c') ∧ Own R w' w.heap.size t (.slice A' n c') l ∧ Ext w w'

set_option maxRecDepth 100000 in
set_option maxHeartbeats 400000 in
theorem clone8_any (w : World) (S : Nat → Prop) (A : Option Addr) (n c : Nat) (l : List Nat) (hl : Sl u8R w S (.slice A n c) l) (hn : n ≤ 1000000) :
    Calls Try.prog 61 #[.slice A n c] w (Cloned u8R 5 w n l) := by
  have hz := fun (w : World) (a : Option Addr) (n c : Nat) => Lib.run_eql_slice_nil (P := Try.prog) w 44 5 a n c 0 0 Try.underlying44
  obtain ⟨i0, hi, hz0, hz1, hz2⟩ := info_parts info_u8
  have HL := hid hl; clear hl
  rcases A with _ | a
  · obtain rfl : l = [] := by
      cases l with
      | nil => rfl
      | cons y ys =>
        obtain ⟨b, off, h⟩ := HL.out.at0 (by rw [HL.out.len]; simp)
        cases h
    obtain rfl : n = 0 := HL.out.len
    go_enter Try.func61, Try.ntmps61
    go_wp2
    go_ret
    exact ⟨none, 0, rfl, OwnS.nil, Ext.refl w⟩
  · go_enter Try.func61, Try.ntmps61
    go_wp2_with (at_builtin; refine wpList_appS rfl (.tmp 5) (.tmp 6) 44 rfl w.heap.size 5 i0 _ 1 1 Try.underlying44 hi hz0 hz1 hz2 rfl u8R rfl _ [] rfl (OwnS.fresh0 (T := All) w (Nat.le_refl _)) (some a) n c l (fun b => b < w.heap.size) rfl ((HL.out.mono (fun b _ h => h.lt)).ext ((Ext.refl w).alloc _)) (fun _ hb _ => ⟨trivial, own_ne hb⟩) (by simp; omega) (by simp; omega) (by simp) ?_; intro A' c' W' hown hg hloc; have HO := hid hown; clear hown; have HG := hid hg; clear hg; clear hloc)
    go_ret
    exact ⟨A', c', by simp, by simpa using HO.out, ((Ext.refl w).alloc _).grown HG.out (fun k hk => by rw [own_at hk]; simp)⟩
end Go.Proofs.Ytnlofhbimfcejaa
