/- The arguments of the statements about coverage. -/
import Derived.Test.YtcddmggefmfkkaaRows
import Derived.Test.YtcddmggefmfkkaaOpen
import Derived.Test.YtcddmggefmfkkaaCovC
import Derived.Test.YtcddmggefmfkkaaFaiA
namespace Go.Proofs.Ytcddmggefmfkkaa
open Go Go.RowKit Go.ChangeShapes Go.WideShapes Go.Deep Go.Joins Go.Deco

set_option maxRecDepth 100000 in
theorem rule_of_trod {H : Type} {enc : TypeId × Value → H} {w : World} {base : Nat} {spare : Nat → Bool} {held : Bool} {v : Value} {d : DataW H} {p : List MemPlace} {r : Reach} {b0 : Nat}
    (hv : Value.okWide Try.prog w r b0 43 v) (hd : DataW.Trod enc Try.prog w base spare held 43 v d p) :
    ∃ q : Rl, v = .agg #[.int .u32 q.least, .int .i64 q.count, .bool q.pair] := by
  obtain ⟨x0, x1, x2, y0, y1, y2, n, rfl, _, _, t0, t1, t2⟩ := open_agg3 Try.underlying43 (by kernel_rfl) (by kernel_rfl) hv hd
  obtain ⟨ad, ha, _, h0⟩ := DataW.trod_int Try.underlying36 t0
  obtain ⟨kd, hk, _, h1⟩ := DataW.trod_int Try.underlying3 t1
  obtain ⟨b, hb, _⟩ := DataW.trod_bool Try.underlying4 t2
  cases ha
  cases hk
  cases hb
  have h2 := wf32 h0
  exact ⟨⟨ad.toNat, kd, b⟩, by simp [Int.toNat_of_nonneg h2.1]⟩

theorem slice_cell {P : Program} {H : Type} {enc : TypeId × Value → H} {w : World} {base : Nat} {spare : Nat → Bool} {held : Bool} {n : Nat} {t e : TypeId} {c : Value} {y : DataW H × List MemPlace} (ht : P.underlying t = some (.slice e)) (h : DataW.trod enc P w base spare held n t [c] = some y) : ∃ A m d, c = .slice A m d := by
  rcases open_slice ht h with ⟨h, _⟩ | ⟨a, len, cap, m, n, D, Pl, h, _⟩
  · exact ⟨none, 0, 0, by simpa using h⟩
  · exact ⟨some a, len, cap, by simpa using h⟩

set_option maxRecDepth 100000 in
theorem opens_bas : Opens Try.prog basR 53 := by
  intro H enc w base spare held fuel cs x hx
  obtain ⟨xs, n, _, _, hcl, hlen, hf⟩ := DataW.trod_struct Try.underlying53 hx
  have hcl : cs.length = 5 := hcl.trans (by kernel_rfl)
  match cs, hcl with
  | [c0, c1, c2, c3, c4], _ =>
    match xs, hlen with
    | [y0, y1, y2, y3, y4], _ =>
      have h0 : DataW.trod enc Try.prog w base spare held n 36 [c0] = some y0 := hf 0 _ rfl
      have h1 : DataW.trod enc Try.prog w base spare held n 36 [c1] = some y1 := hf 1 _ rfl
      have h2 : DataW.trod enc Try.prog w base spare held n 51 [c2] = some y2 := hf 2 _ rfl
      have h3 : DataW.trod enc Try.prog w base spare held n 23 [c3] = some y3 := hf 3 _ rfl
      have h4 : DataW.trod enc Try.prog w base spare held n 38 [c4] = some y4 := hf 4 _ rfl
      obtain ⟨a, ha, _, hw⟩ := DataW.trod_int Try.underlying36 h0
      obtain ⟨e, he, _, hwe⟩ := DataW.trod_int Try.underlying36 h1
      obtain ⟨A2, m2, d2, rfl⟩ := slice_cell Try.underlying51 h2
      obtain ⟨A3, m3, d3, rfl⟩ := slice_cell Try.underlying23 h3
      obtain ⟨A4, m4, d4, rfl⟩ := slice_cell Try.underlying38 h4
      cases ha; cases he
      have := wf32 hw
      have he := wf32 hwe
      exact ⟨a.toNat, e.toNat, A2, m2, d2, A3, m3, d3, A4, m4, d4, by simp [Int.toNat_of_nonneg this.1, Int.toNat_of_nonneg he.1], by omega⟩

set_option maxRecDepth 100000 in
theorem cov_of_trod {H : Type} {enc : TypeId × Value → H} {w : World} {base : Nat} {spare : Nat → Bool} {held : Bool} {v : Value} {d : DataW H} {p : List MemPlace} {r : Reach} {b0 : Nat}
    (hv : Value.okWide Try.prog w r b0 29 v) (hd : DataW.Trod enc Try.prog w base spare held 29 v d p) :
    ∃ (A : Option Addr) (c : Nat) (bl : List Nat) (B : Option Addr) (k : Nat) (hs : List Int), v = .agg #[.slice A bl.length c, .slice B hs.length k] ∧ Sl u32R w All (.slice A bl.length c) bl ∧ Sl i64R w All (.slice B hs.length k) hs := by
  obtain ⟨x0, x1, y0, y1, n, rfl, _, _, t0, t1⟩ := open_agg2 Try.underlying29 (by kernel_rfl) (by kernel_rfl) hv hd
  obtain ⟨l, v0, h0, hl⟩ := opens_slice (R := u32R) Try.underlying23 (by kernel_rfl) (opens_u32 Try.underlying36) H enc w base spare held n _ _ t0
  obtain ⟨l', v1, h1, hl'⟩ := opens_slice (R := i64R) Try.underlying27 (by kernel_rfl) (opens_i64 Try.underlying3) H enc w base spare held n _ _ t1
  obtain ⟨A, c, rfl, _⟩ := hl.form
  obtain ⟨B, k, rfl, _⟩ := hl'.form
  cases h0; cases h1
  exact ⟨A, c, l, B, k, l', rfl, hl, hl'⟩
end Go.Proofs.Ytcddmggefmfkkaa
