/- The arguments of the statements about functions. -/
import Derived.Test.YtnlmhnbogleijaaRows
import Derived.Test.YtnlmhnbogleijaaOpen
import Derived.Test.YtnlmhnbogleijaaFunA
namespace Go.Proofs.Ytnlmhnbogleijaa
open Go Go.RowKit Go.ChangeShapes Go.WideShapes Go.Deep Go.Joins Go.Deco

set_option maxRecDepth 100000 in
theorem opens_fn : Opens Try.prog fnR 42 := by
  intro H enc w base spare held fuel cs x hx
  obtain ⟨xs, n, _, _, hcl, hlen, hf⟩ := DataW.trod_struct Try.underlying42 hx
  have hcl : cs.length = 5 := hcl.trans (by kernel_rfl)
  match cs, hcl with
  | [c0, c1, c2, c3, c4], _ =>
    match xs, hlen with
    | [y0, y1, y2, y3, y4], _ =>
      have h0 : DataW.trod enc Try.prog w base spare held n 32 [c0] = some y0 := hf 0 _ rfl
      have h1 : DataW.trod enc Try.prog w base spare held n 9 [c1] = some y1 := hf 1 _ rfl
      have h2 : DataW.trod enc Try.prog w base spare held n 29 [c2] = some y2 := hf 2 _ rfl
      have h3 : DataW.trod enc Try.prog w base spare held n 29 [c3] = some y3 := hf 3 _ rfl
      have h4 : DataW.trod enc Try.prog w base spare held n 4 [c4] = some y4 := hf 4 _ rfl
      obtain ⟨a, ha, _, hw⟩ := DataW.trod_int Try.underlying32 h0
      obtain ⟨s, hs, _, hsz⟩ := DataW.trod_string Try.underlying9 h1
      obtain ⟨l, v, hv, hl⟩ := opens_slice (R := u32R) Try.underlying29 (by kernel_rfl) (opens_u32 Try.underlying32) H enc w base spare held n _ _ h2
      obtain ⟨l', v', hv', hl'⟩ := opens_slice (R := u32R) Try.underlying29 (by kernel_rfl) (opens_u32 Try.underlying32) H enc w base spare held n _ _ h3
      obtain ⟨b, hb, _⟩ := DataW.trod_bool Try.underlying4 h4
      cases hs; cases ha; cases hv; cases hv'; cases hb
      have := wf32 hw
      exact ⟨⟨a.toNat, s, l, l', b⟩, _, _, by simp [Int.toNat_of_nonneg this.1], hl, hl', by simp; omega, hsz⟩
end Go.Proofs.Ytnlmhnbogleijaa
