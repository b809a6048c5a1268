/- The arguments of the statements about functions out of blocks. -/
import Derived.Test.YtnlmhnbogleijaaGreatDoorRows
import Derived.Test.YtnlmhnbogleijaaGreatDoorOpen
import Derived.Test.YtnlmhnbogleijaaGreatDoorCfgm
namespace Go.Proofs.YtnlmhnbogleijaaGreatDoor
open Go Go.RowKit Go.ChangeShapes Go.WideShapes Go.Deep Go.Joins Go.Deco

set_option maxRecDepth 100000 in
theorem opens_in : Opens Tryz.prog insR 77 := by
  intro H enc w base spare held fuel cs x hx
  obtain ⟨xs, n, _, _, hcl, hlen, hf⟩ := DataW.trod_struct Tryz.underlying77 hx
  have hcl : cs.length = 9 := hcl.trans (by kernel_rfl)
  match cs, hcl with
  | [c0, c1, c2, c3, c4, c5, c6, c7, c8], _ =>
    match xs, hlen with
    | [y0, y1, y2, y3, y4, y5, y6, y7, y8], _ =>
      have h0 : DataW.trod enc Tryz.prog w base spare held n 38 [c0] = some y0 := hf 0 _ rfl
      have h1 : DataW.trod enc Tryz.prog w base spare held n 38 [c1] = some y1 := hf 1 _ rfl
      have h2 : DataW.trod enc Tryz.prog w base spare held n 3 [c2] = some y2 := hf 2 _ rfl
      have h3 : DataW.trod enc Tryz.prog w base spare held n 3 [c3] = some y3 := hf 3 _ rfl
      have h4 : DataW.trod enc Tryz.prog w base spare held n 3 [c4] = some y4 := hf 4 _ rfl
      have h5 : DataW.trod enc Tryz.prog w base spare held n 3 [c5] = some y5 := hf 5 _ rfl
      have h6 : DataW.trod enc Tryz.prog w base spare held n 3 [c6] = some y6 := hf 6 _ rfl
      have h7 : DataW.trod enc Tryz.prog w base spare held n 3 [c7] = some y7 := hf 7 _ rfl
      have h8 : DataW.trod enc Tryz.prog w base spare held n 3 [c8] = some y8 := hf 8 _ rfl
      obtain ⟨a0, e0, _, k0⟩ := DataW.trod_int Tryz.underlying38 h0
      obtain ⟨a1, e1, _, k1⟩ := DataW.trod_int Tryz.underlying38 h1
      obtain ⟨a2, e2, _, k2⟩ := DataW.trod_int Tryz.underlying3 h2
      obtain ⟨a3, e3, _, k3⟩ := DataW.trod_int Tryz.underlying3 h3
      obtain ⟨a4, e4, _, k4⟩ := DataW.trod_int Tryz.underlying3 h4
      obtain ⟨a5, e5, _, k5⟩ := DataW.trod_int Tryz.underlying3 h5
      obtain ⟨a6, e6, _, k6⟩ := DataW.trod_int Tryz.underlying3 h6
      obtain ⟨a7, e7, _, k7⟩ := DataW.trod_int Tryz.underlying3 h7
      obtain ⟨a8, e8, _, k8⟩ := DataW.trod_int Tryz.underlying3 h8
      cases e0; cases e1; cases e2; cases e3; cases e4; cases e5; cases e6; cases e7; cases e8
      have k0 := wf32 k0
      have k1 := wf32 k1
      have k2 := wf64i k2
      have k3 := wf64i k3
      have k4 := wf64i k4
      have k5 := wf64i k5
      have k6 := wf64i k6
      have k7 := wf64i k7
      have k8 := wf64i k8
      exact ⟨⟨a0.toNat, a1.toNat, a2, a3, a4, a5, a6, a7, a8⟩, by simp [inCells, Int.toNat_of_nonneg k0.1, Int.toNat_of_nonneg k1.1], by simp only []; omega, by simp only []; omega, k2, k3, k4, k5, k6, k7, k8⟩
theorem opens_u32s : Opens Tryz.prog u32sR 23 := opens_slice (R := u32R) Tryz.underlying23 (by kernel_rfl) (opens_u32 Tryz.underlying38)

set_option maxRecDepth 100000 in
theorem opens_bs : Opens Tryz.prog bsR 46 := by
  intro H enc w base spare held fuel cs x hx
  obtain ⟨xs, n, _, _, hcl, hlen, hf⟩ := DataW.trod_struct Tryz.underlying46 hx
  have hcl : cs.length = 5 := hcl.trans (by kernel_rfl)
  match cs, hcl with
  | [c0, c1, c2, c3, c4], _ =>
    match xs, hlen with
    | [y0, y1, y2, y3, y4], _ =>
      have h0 : DataW.trod enc Tryz.prog w base spare held n 38 [c0] = some y0 := hf 0 _ rfl
      have h1 : DataW.trod enc Tryz.prog w base spare held n 38 [c1] = some y1 := hf 1 _ rfl
      have h2 : DataW.trod enc Tryz.prog w base spare held n 43 [c2] = some y2 := hf 2 _ rfl
      have h3 : DataW.trod enc Tryz.prog w base spare held n 23 [c3] = some y3 := hf 3 _ rfl
      have h4 : DataW.trod enc Tryz.prog w base spare held n 44 [c4] = some y4 := hf 4 _ rfl
      obtain ⟨a, ha, _, hw⟩ := DataW.trod_int Tryz.underlying38 h0
      obtain ⟨e, he, _, hwe⟩ := DataW.trod_int Tryz.underlying38 h1
      obtain ⟨l2, v2, hv2, hl2⟩ := opens_slice (R := insR) Tryz.underlying43 (by kernel_rfl) opens_in H enc w base spare held n _ _ h2
      obtain ⟨l3, v3, hv3, hl3⟩ := opens_slice (R := u32R) Tryz.underlying23 (by kernel_rfl) (opens_u32 Tryz.underlying38) H enc w base spare held n _ _ h3
      obtain ⟨l4, v4, hv4, hl4⟩ := opens_slice (R := u32sR) Tryz.underlying44 (by kernel_rfl) opens_u32s H enc w base spare held n _ _ h4
      cases ha; cases he; cases hv2; cases hv3; cases hv4
      have := wf32 hw
      have he := wf32 hwe
      exact ⟨⟨a.toNat, e.toNat, l2, l3, l4⟩, _, _, _, by simp [Int.toNat_of_nonneg this.1, Int.toNat_of_nonneg he.1], hl2, hl3, hl4, by simp only []; omega, by simp only []; omega⟩

end Go.Proofs.YtnlmhnbogleijaaGreatDoor
