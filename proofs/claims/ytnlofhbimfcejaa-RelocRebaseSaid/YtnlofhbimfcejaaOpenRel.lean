/- Objects and relocations that came in. -/
import Derived.Test.YtnlofhbimfcejaaRows
import Derived.Test.YtnlofhbimfcejaaOpenSym
import Derived.Test.YtnlofhbimfcejaaHdr
namespace Go.Proofs.Ytnlofhbimfcejaa
open Go Go.RowKit Go.ChangeShapes Go.WideShapes Go.Deep Go.Joins Go.Deco

set_option maxRecDepth 100000 in
theorem opens_sec : Opens Try.prog secR 46 := by
  intro H enc w base spare held fuel cs x hx
  obtain ⟨xs, n, _, _, hcl, hlen, hf⟩ := DataW.trod_struct Try.underlying46 hx
  have hcl : cs.length = 5 := hcl.trans (by kernel_rfl)
  match cs, hcl with
  | [c0, c1, c2, c3, c4], _ =>
    match xs, hlen with
    | [y0, y1, y2, y3, y4], _ =>
      have h0 : DataW.trod enc Try.prog w base spare held n 9 [c0] = some y0 := hf 0 _ rfl
      have h1 : DataW.trod enc Try.prog w base spare held n 22 [c1] = some y1 := hf 1 _ rfl
      have h2 : DataW.trod enc Try.prog w base spare held n 44 [c2] = some y2 := hf 2 _ rfl
      have h3 : DataW.trod enc Try.prog w base spare held n 4 [c3] = some y3 := hf 3 _ rfl
      have h4 : DataW.trod enc Try.prog w base spare held n 4 [c4] = some y4 := hf 4 _ rfl
      obtain ⟨s, hs, _, hsz⟩ := DataW.trod_string Try.underlying9 h0
      obtain ⟨a, ha, _, hw⟩ := DataW.trod_int Try.underlying22 h1
      obtain ⟨l, v, hv, hl⟩ := opens_slice (R := u8R) Try.underlying44 (by kernel_rfl) (opens_u8 Try.underlying5) H enc w base spare held n _ _ h2
      obtain ⟨b, hb, _⟩ := DataW.trod_bool Try.underlying4 h3
      obtain ⟨b', hb', _⟩ := DataW.trod_bool Try.underlying4 h4
      cases hs; cases ha; cases hv; cases hb; cases hb'
      have := wf32 hw
      exact ⟨⟨s, a.toNat, l, b, b'⟩, _, by simp [Int.toNat_of_nonneg this.1], hl, by simp; omega, hsz⟩
theorem wfi32 {n : Int} (h : (Lit.int .i32 n).wf = true) : -2147483648 ≤ n ∧ n ≤ 2147483647 := by
  simp [Lit.wf, IntKind.min, IntKind.max, IntKind.signed, IntKind.bits] at h
  omega
set_option maxRecDepth 100000 in
theorem opens_rel : Opens Try.prog relR 36 := by
  intro H enc w base spare held fuel cs x hx
  obtain ⟨xs, n, _, _, hcl, hlen, hf⟩ := DataW.trod_struct Try.underlying36 hx
  have hcl : cs.length = 5 := hcl.trans (by kernel_rfl)
  match cs, hcl with
  | [c0, c1, c2, c3, c4], _ =>
    match xs, hlen with
    | [y0, y1, y2, y3, y4], _ =>
      have h0 : DataW.trod enc Try.prog w base spare held n 3 [c0] = some y0 := hf 0 _ rfl
      have h1 : DataW.trod enc Try.prog w base spare held n 3 [c1] = some y1 := hf 1 _ rfl
      have h2 : DataW.trod enc Try.prog w base spare held n 3 [c2] = some y2 := hf 2 _ rfl
      have h3 : DataW.trod enc Try.prog w base spare held n 9 [c3] = some y3 := hf 3 _ rfl
      have h4 : DataW.trod enc Try.prog w base spare held n 21 [c4] = some y4 := hf 4 _ rfl
      obtain ⟨a0, ha0, _, w0⟩ := DataW.trod_int Try.underlying3 h0
      obtain ⟨a1, ha1, _, w1⟩ := DataW.trod_int Try.underlying3 h1
      obtain ⟨a2, ha2, _, w2⟩ := DataW.trod_int Try.underlying3 h2
      obtain ⟨s, hs, _, hsz⟩ := DataW.trod_string Try.underlying9 h3
      obtain ⟨a4, ha4, _, w4⟩ := DataW.trod_int Try.underlying21 h4
      cases hs; cases ha0; cases ha1; cases ha2; cases ha4
      exact ⟨⟨a0, a1, a2, s, a4⟩, rfl, wf64i w0, wf64i w1, wf64i w2, hsz, wfi32 w4⟩
set_option maxRecDepth 100000 in
theorem rel_of_trod {H : Type} {enc : TypeId × Value → H} {w : World} {base : Nat} {spare : Nat → Bool} {held : Bool} {v : Value} {d : DataW H} {p : List MemPlace} {r : Reach} {b0 : Nat}
    (hv : Value.okWide Try.prog w r b0 36 v) (hd : DataW.Trod enc Try.prog w base spare held 36 v d p) :
    ∃ r : Rl, v = .agg #[.int .i64 r.sec, .int .i64 r.off, .int .i64 r.kind, .string r.sym, .int .i32 r.add] ∧ RlOk r := by
  obtain ⟨cs, rfl, hsz⟩ := okWide_struct Try.underlying36 hv
  obtain ⟨fuel, hf⟩ := hd
  obtain ⟨r, hr, hok⟩ := opens_rel H enc w base spare held fuel _ _ hf
  refine ⟨r, ?_, hok⟩
  have e : cs.toList = relCells r := by simpa [Value.cells] using hr
  congr 1
  apply Array.toList_inj.1
  rw [e]
  rfl
set_option maxRecDepth 100000 in
theorem ob_of_trod {H : Type} {enc : TypeId × Value → H} {w : World} {base : Nat} {spare : Nat → Bool} {held : Bool} {v : Value} {d : DataW H} {p : List MemPlace} {r : Reach} {b0 : Nat}
    (hv : Value.okWide Try.prog w r b0 27 v) (hd : DataW.Trod enc Try.prog w base spare held 27 v d p) :
    ∃ (o : Ob) (As Ay Ar : Option Addr) (cs cy cr : Nat), v = .agg #[.int .u32 o.entry, .slice As o.secs.length cs, .slice Ay o.syms.length cy, .slice Ar o.rels.length cr] ∧ o.entry < 4294967296 ∧
      Sl secR w All (.slice As o.secs.length cs) o.secs ∧ Sl symR w All (.slice Ay o.syms.length cy) o.syms ∧ Sl relR w All (.slice Ar o.rels.length cr) o.rels := by
  obtain ⟨x0, x1, x2, x3, y0, y1, y2, y3, n, rfl, _, _, t0, t1, t2, t3⟩ := open_agg4 Try.underlying27 (by kernel_rfl) (by kernel_rfl) hv hd
  obtain ⟨a, ha, _, h0⟩ := DataW.trod_int Try.underlying22 t0
  obtain ⟨l1, v1, h1, hl1⟩ := opens_slice (R := secR) Try.underlying23 (by kernel_rfl) opens_sec H enc w base spare held n _ _ t1
  obtain ⟨l2, v2, h2, hl2⟩ := opens_slice (R := symR) Try.underlying24 (by kernel_rfl) opens_sym H enc w base spare held n _ _ t2
  obtain ⟨l3, v3, h3, hl3⟩ := opens_slice (R := relR) Try.underlying25 (by kernel_rfl) opens_rel H enc w base spare held n _ _ t3
  obtain ⟨A1, c1, rfl, _⟩ := hl1.form
  obtain ⟨A2, c2, rfl, _⟩ := hl2.form
  obtain ⟨A3, c3, rfl, _⟩ := hl3.form
  cases ha; cases h1; cases h2; cases h3
  have h0 := wf32 h0
  exact ⟨⟨a.toNat, l1, l2, l3⟩, A1, A2, A3, c1, c2, c3, by simp [Int.toNat_of_nonneg h0.1], by show a.toNat < 4294967296; omega, hl1, hl2, hl3⟩
end Go.Proofs.Ytnlofhbimfcejaa
