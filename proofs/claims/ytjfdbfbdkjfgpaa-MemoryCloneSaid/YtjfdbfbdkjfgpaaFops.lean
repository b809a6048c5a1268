/- fewOps; calls as arguments. -/
import Derived.Test.YtjfdbfbdkjfgpaaChgQ
import Derived.Test.YtjfdbfbdkjfgpaaOpenMem
namespace Go.Proofs.Ytjfdbfbdkjfgpaa
open Go Go.RowKit Go.ChangeShapes Go.WideShapes Go.Deep Go.Joins Go.Deco

set_option maxRecDepth 100000 in
theorem opens_op : Opens Try.prog opR 25 := by
  intro H enc w base spare held fuel cs x hx
  obtain ⟨xs, n, _, _, hcl, hlen, hf⟩ := DataW.trod_struct Try.underlying25 hx
  have hcl : cs.length = 4 := hcl.trans (by kernel_rfl)
  match cs, hcl with
  | [c0, c1, c2, c3], _ =>
    match xs, hlen with
    | [y0, y1, y2, y3], _ =>
      have h0 : DataW.trod enc Try.prog w base spare held n 3 [c0] = some y0 := hf 0 _ rfl
      have h1 : DataW.trod enc Try.prog w base spare held n 3 [c1] = some y1 := hf 1 _ rfl
      have h2 : DataW.trod enc Try.prog w base spare held n 23 [c2] = some y2 := hf 2 _ rfl
      have h3 : DataW.trod enc Try.prog w base spare held n 23 [c3] = some y3 := hf 3 _ rfl
      obtain ⟨k, hk, _, hw0⟩ := DataW.trod_int Try.underlying3 h0
      obtain ⟨q, hq, _, hw1⟩ := DataW.trod_int Try.underlying3 h1
      obtain ⟨a, ha, _, hw2⟩ := DataW.trod_int Try.underlying23 h2
      obtain ⟨x3, hx3, _, hw3⟩ := DataW.trod_int Try.underlying23 h3
      cases hk; cases hq; cases ha; cases hx3
      have := wf64i hw0
      have h1' := wf64i hw1
      have h2' := wf32 hw2
      have h3' := wf32 hw3
      exact ⟨⟨k, q, a.toNat, x3.toNat⟩, by simp [Int.toNat_of_nonneg h2'.1, Int.toNat_of_nonneg h3'.1], h1'.1, h1'.2, by simp; omega, by simp; omega, this.1, this.2⟩

def SomeFew (w : World) (n : Nat) (e : Ending) (w' : World) : Prop := (∃ b : Bool, e = .returned (.bool b) ∧ (b = true → n ≤ 40)) ∧ w = w'

set_option maxRecDepth 100000 in
set_option maxHeartbeats 1000000 in
theorem fewOps_any (w : World) (A : Option Addr) (n c : Nat) (l : List Op9) (hl : Sl opR w All (.slice A n c) l) :
    Calls Try.prog 16 #[.slice A n c] w (SomeFew w n) := by
  have hln := hl.len
  obtain ⟨hnc, hcm⟩ := hl.cap
  have HS := hid hl; clear hl
  have HL := hid hln; clear hln
  go_enter Try.func16, Try.ntmps16
  go_wp2
  go_loop [3] (fun i => ∃ k : Nat, k ≤ n ∧ i = .int .i64 k) (fun i => n - (intOf i).toNat)
  case atStart => exact ⟨0, by omega, rfl⟩
  case round =>
    obtain ⟨k, hk, rfl⟩ := hrel
    by_cases h1 : k < n
    · by_cases h2 : k < 50
      · obtain ⟨s, hs⟩ : ∃ s, l[k]? = some s := ⟨_, List.getElem?_eq_getElem (by have := HL.out; omega)⟩
        obtain ⟨b, off, rfl, s0, s1, s2, s3, -⟩ := Sl_op_at HS.out hs
        clear hs
        go_wp2
        all_goals first
          | (go_ret; exact ⟨⟨_, rfl, fun h => by simp at h⟩, rfl⟩)
          | (go_round
             case rel => exact ⟨k + 1, by omega, by go_num⟩
             case measure => simp [intOf]; omega)
      · go_wp2
        go_ret
        exact ⟨⟨_, rfl, fun h => by simp at h; omega⟩, rfl⟩
    · go_wp2
      go_ret
      exact ⟨⟨_, rfl, fun h => by simp at h; omega⟩, rfl⟩
end Go.Proofs.Ytjfdbfbdkjfgpaa
