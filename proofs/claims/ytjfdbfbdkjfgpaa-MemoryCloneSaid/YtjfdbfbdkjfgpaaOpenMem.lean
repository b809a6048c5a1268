/- The arguments of the statements about memory: sections, calls. -/
import Derived.Test.YtjfdbfbdkjfgpaaRows
import Derived.Test.YtjfdbfbdkjfgpaaOpen
import Derived.Test.YtjfdbfbdkjfgpaaSpecSec
namespace Go.Proofs.Ytjfdbfbdkjfgpaa
open Go Go.RowKit Go.ChangeShapes Go.WideShapes Go.Deep Go.Joins Go.Deco

set_option maxRecDepth 100000 in
theorem opens_sec : Opens Try.prog secR 67 := by
  intro H enc w base spare held fuel cs x hx
  obtain ⟨xs, n, _, _, hcl, hlen, hf⟩ := DataW.trod_struct Try.underlying67 hx
  have hcl : cs.length = 5 := hcl.trans (by kernel_rfl)
  match cs, hcl with
  | [c0, c1, c2, c3, c4], _ =>
    match xs, hlen with
    | [y0, y1, y2, y3, y4], _ =>
      have h0 : DataW.trod enc Try.prog w base spare held n 9 [c0] = some y0 := hf 0 _ rfl
      have h1 : DataW.trod enc Try.prog w base spare held n 23 [c1] = some y1 := hf 1 _ rfl
      have h2 : DataW.trod enc Try.prog w base spare held n 49 [c2] = some y2 := hf 2 _ rfl
      have h3 : DataW.trod enc Try.prog w base spare held n 4 [c3] = some y3 := hf 3 _ rfl
      have h4 : DataW.trod enc Try.prog w base spare held n 4 [c4] = some y4 := hf 4 _ rfl
      obtain ⟨s, hs, _, hsz⟩ := DataW.trod_string Try.underlying9 h0
      obtain ⟨a, ha, _, hw⟩ := DataW.trod_int Try.underlying23 h1
      obtain ⟨l, v, hv, hl⟩ := opens_slice (R := u8R) Try.underlying49 (by kernel_rfl) (opens_u8 Try.underlying5) H enc w base spare held n _ _ h2
      obtain ⟨b, hb, _⟩ := DataW.trod_bool Try.underlying4 h3
      obtain ⟨b', hb', _⟩ := DataW.trod_bool Try.underlying4 h4
      cases hs; cases ha; cases hv; cases hb; cases hb'
      have := wf32 hw
      exact ⟨⟨s, a.toNat, l, b, b'⟩, _, by simp [Int.toNat_of_nonneg this.1], hl, by simp; omega, hsz⟩

set_option maxRecDepth 100000 in
theorem op_of_trod {H : Type} {enc : TypeId × Value → H} {w : World} {base : Nat} {spare : Nat → Bool} {held : Bool} {v : Value} {d : DataW H} {p : List MemPlace} {r : Reach} {b0 : Nat}
    (hv : Value.okWide Try.prog w r b0 25 v) (hd : DataW.Trod enc Try.prog w base spare held 25 v d p) :
    ∃ (k q : Int) (a x : Nat), v = .agg #[.int .i64 k, .int .i64 q, .int .u32 a, .int .u32 x] ∧ -9223372036854775808 ≤ q ∧ q ≤ 9223372036854775807 ∧ a < 4294967296 ∧ x < 4294967296 := by
  obtain ⟨x0, x1, x2, x3, y0, y1, y2, y3, n, rfl, _, _, t0, t1, t2, t3⟩ := open_agg4 Try.underlying25 (by kernel_rfl) (by kernel_rfl) hv hd
  obtain ⟨kd, hk, _, _⟩ := DataW.trod_int Try.underlying3 t0
  obtain ⟨wd, hw, _, h1⟩ := DataW.trod_int Try.underlying3 t1
  obtain ⟨ad, ha, _, h2⟩ := DataW.trod_int Try.underlying23 t2
  obtain ⟨nn, hn, _, h3⟩ := DataW.trod_int Try.underlying23 t3
  cases hk
  cases hw
  cases ha
  cases hn
  have := wf64i h1
  have h2 := wf32 h2
  have h3 := wf32 h3
  exact ⟨kd, wd, ad.toNat, nn.toNat, by rw [Int.toNat_of_nonneg h2.1, Int.toNat_of_nonneg h3.1], this.1, this.2, by omega, by omega⟩
end Go.Proofs.Ytjfdbfbdkjfgpaa
