/- Symbols that came in. -/
import Derived.Test.YtekilcnkinmakaaDoorRows
import Derived.Test.YtekilcnkinmakaaDoorOpen
import Derived.Test.YtekilcnkinmakaaDoorSymL
namespace Go.Proofs.YtekilcnkinmakaaDoor
open Go Go.RowKit Go.ChangeShapes Go.WideShapes Go.Deep Go.Joins Go.Deco

set_option maxRecDepth 100000 in
theorem opens_sym : Opens Tryd.prog symR 27 := by
  intro H enc w base spare held fuel cs x hx
  obtain ⟨xs, n, _, _, hcl, hlen, hf⟩ := DataW.trod_struct Tryd.underlying27 hx
  have hcl : cs.length = 3 := hcl.trans (by kernel_rfl)
  match cs, hcl with
  | [c0, c1, c2], _ =>
    match xs, hlen with
    | [y0, y1, y2], _ =>
      have h0 : DataW.trod enc Tryd.prog w base spare held n 9 [c0] = some y0 := hf 0 _ rfl
      have h1 : DataW.trod enc Tryd.prog w base spare held n 23 [c1] = some y1 := hf 1 _ rfl
      have h2 : DataW.trod enc Tryd.prog w base spare held n 3 [c2] = some y2 := hf 2 _ rfl
      obtain ⟨s, hs, _, hsz⟩ := DataW.trod_string Tryd.underlying9 h0
      obtain ⟨a, ha, _, hw⟩ := DataW.trod_int Tryd.underlying23 h1
      obtain ⟨k, hk, _, hk2⟩ := DataW.trod_int Tryd.underlying3 h2
      cases hs; cases ha; cases hk
      have := wf32 hw
      have h64 := wf64i hk2
      exact ⟨⟨s, a.toNat, k⟩, by simp [Int.toNat_of_nonneg this.1], by simp; omega, hsz, h64.1, h64.2⟩
set_option maxRecDepth 100000 in
theorem sym_of_trod {H : Type} {enc : TypeId × Value → H} {w : World} {base : Nat} {spare : Nat → Bool} {held : Bool} {v : Value} {d : DataW H} {p : List MemPlace} {r : Reach} {b0 : Nat}
    (hv : Value.okWide Tryd.prog w r b0 27 v) (hd : DataW.Trod enc Tryd.prog w base spare held 27 v d p) :
    ∃ s : Sy, v = .agg #[.string s.name, .int .u32 s.addr, .int .i64 s.kind] ∧ s.addr < 4294967296 ∧ s.name.size ≤ maxLen ∧ -9223372036854775808 ≤ s.kind ∧ s.kind ≤ 9223372036854775807 := by
  obtain ⟨x0, x1, x2, y0, y1, y2, n, rfl, _, _, t0, t1, t2⟩ := open_agg3 Tryd.underlying27 (by kernel_rfl) (by kernel_rfl) hv hd
  obtain ⟨s, hs, _, hsz⟩ := DataW.trod_string Tryd.underlying9 t0
  obtain ⟨a, ha, _, h1⟩ := DataW.trod_int Tryd.underlying23 t1
  obtain ⟨k, hk, _, h2⟩ := DataW.trod_int Tryd.underlying3 t2
  cases hs
  cases ha
  cases hk
  have h1 := wf32 h1
  have h2 := wf64i h2
  exact ⟨⟨s, a.toNat, k⟩, by simp [Int.toNat_of_nonneg h1.1], by simp; omega, hsz, h2.1, h2.2⟩
end Go.Proofs.YtekilcnkinmakaaDoor
