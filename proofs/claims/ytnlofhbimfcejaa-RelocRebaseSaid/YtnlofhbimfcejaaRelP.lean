/- Apply and Rebase as one form of result. -/
import Derived.Test.YtnlofhbimfcejaaRelK
import Derived.Test.YtnlofhbimfcejaaRelM
import Derived.Test.YtnlofhbimfcejaaRelN
namespace Go.Proofs.Ytnlofhbimfcejaa
open Go.RowKit Go.Deco
set_option linter.unusedSimpArgs false
set_option linter.unusedVariables false

theorem same7_len (w : World) (o : Ob) (As Ay Ar Bs By Br : Option Addr) (n1 n2 n3 m1 m2 m3 cs cy cr ds dy dr : Nat) (hs : Sl secR w All (.slice As n1 cs) o.secs) (hy : Sl symR w All (.slice Ay n2 cy) o.syms) (hr : Sl relR w All (.slice Ar n3 cr) o.rels)
    (hs' : Sl secR w All (.slice Bs m1 ds) o.secs) (hy' : Sl symR w All (.slice By m2 dy) o.syms) (hr' : Sl relR w All (.slice Br m3 dr) o.rels) :
    Calls Try.prog 21 #[.agg #[.int .u32 o.entry, .slice As n1 cs, .slice Ay n2 cy, .slice Ar n3 cr], .agg #[.int .u32 o.entry, .slice Bs m1 ds, .slice By m2 dy, .slice Br m3 dr]] w (BoolTo w true) := by
  obtain rfl : n1 = m1 := hs.len.trans hs'.len.symm
  obtain rfl : n2 = m2 := hy.len.trans hy'.len.symm
  obtain rfl : n3 = m3 := hr.len.trans hr'.len.symm
  exact same7_eq w o As Ay Ar Bs By Br n1 cs n2 cy n3 cr ds dy dr hs hy hr hs' hy' hr'
/-- An object and an error. -/
def ObR (w : World) (X : Ob) (er : Nat) (e : Ending) (w' : World) : Prop := Ext w w' ∧ ∃ (A1 A2 A3 : Option Addr) (c1 c2 c3 : Nat), e = .returned (.tuple #[.agg #[.int .u32 X.entry, .slice A1 X.secs.length c1, .slice A2 X.syms.length c2, .slice A3 X.rels.length c3], .int .i64 er]) ∧
  Sl secR w' All (.slice A1 X.secs.length c1) X.secs ∧ Sl symR w' All (.slice A2 X.syms.length c2) X.syms ∧ Sl relR w' All (.slice A3 X.rels.length c3) X.rels
theorem obr_zero {w w' : World} {er : Nat} {e : Ending} (h : Ext w w') (he : e = .returned (.tuple #[.agg #[.int .u32 0, .slice none 0 0, .slice none 0 0, .slice none 0 0], .int .i64 er])) : ObR w Ob.zero er e w' :=
  ⟨h, none, none, none, 0, 0, 0, he, Sl.nil, Sl.nil, Sl.nil⟩
theorem rebaseR_bad {o : Ob} {m : Nat} (h : obCheck o ≠ 0) : rebaseR o m = (Ob.zero, obCheck o) := by rw [rebaseR, if_neg h]
theorem rebaseR_bad2 {o : Ob} {m : Nat} (h : obCheck o = 0) (h2 : obCheck (moveOb o m) ≠ 0) : rebaseR o m = (Ob.zero, obCheck (moveOb o m)) := by rw [rebaseR, if_pos h, if_neg h2]
theorem rebaseR_ok {o : Ob} {m : Nat} (h : obCheck o = 0) (h2 : obCheck (moveOb o m) = 0) : rebaseR o m = (moveOb o m, 0) := by rw [rebaseR, if_pos h, if_pos h2]
theorem RebaseIs.obr {w w' : World} {o : Ob} {m : Nat} {e : Ending} (h : RebaseIs w o m e w') : ObR w (rebaseR o m).1 (rebaseR o m).2 e w' := by
  obtain ⟨hx, ⟨h1, he⟩ | ⟨h1, h2, he⟩ | ⟨h1, h2, A1, A2, A3, c1, c2, c3, he, hs, hy, hr⟩⟩ := h
  · rw [rebaseR_bad h1]
    exact obr_zero hx he
  · rw [rebaseR_bad2 h1 h2]
    exact obr_zero hx he
  · rw [rebaseR_ok h1 h2]
    have l1 : (moveOb o m).secs.length = o.secs.length := List.length_map _
    have l2 : (moveOb o m).syms.length = o.syms.length := List.length_map _
    refine ⟨hx, A1, A2, A3, c1, c2, c3, ?_, ?_, ?_, hr⟩
    · rw [l1, l2]
      exact he
    · rw [l1]; exact hs
    · rw [l2]; exact hy
theorem fold_len {syms : List Sy} : ∀ (l : List Rl) (L : List Sec), (l.foldl (patchS syms) L).length = L.length
  | [], _ => rfl
  | r :: l, L => by
    rw [List.foldl_cons, fold_len l]
    unfold patchS
    split
    · rfl
    · rw [List.length_set]
theorem ApplyIs.obr {w w' : World} {o : Ob} {e : Ending} (h : ApplyIs w o e w') : ObR w (applyR o).1 (applyR o).2 e w' := by
  rcases h with ⟨h1, he, hx⟩ | ⟨h1, A1, A2, c1, c2, H, hi, he, hx, hs, hy⟩
  · rw [applyR, if_neg h1]
    exact obr_zero hx he
  · rw [applyR, if_pos h1]
    have l1 : (applyOb o).secs.length = o.secs.length := fold_len _ _
    refine ⟨hx, A1, A2, none, c1, c2, 0, ?_, ?_, hy, Sl.nil⟩
    · rw [l1]
      exact he
    · rw [l1]
      exact hs.sl (fun _ _ => trivial)
/-- The numbers of the object are numbers of 32 bits. -/
def Ob32 (o : Ob) : Prop := o.entry < 4294967296 ∧ (∀ s ∈ o.secs, s.addr < 4294967296) ∧ ∀ s ∈ o.syms, s.addr < 4294967296
theorem ob32_of {w : World} {o : Ob} {As Ay : Option Addr} {ns cs ny cy : Nat} (he : o.entry < 4294967296) (hs : Sl secR w All (.slice As ns cs) o.secs) (hy : Sl symR w All (.slice Ay ny cy) o.syms) : Ob32 o := by
  refine ⟨he, fun s hm => ?_, fun s hm => ?_⟩
  · obtain ⟨k, hk, rfl⟩ := List.getElem_of_mem hm
    obtain ⟨b, off, dA, dc, -, -, -, h, -⟩ := hs.sec_at (List.getElem?_eq_getElem hk)
    exact h
  · obtain ⟨k, hk, rfl⟩ := List.getElem_of_mem hm
    obtain ⟨b, off, -, -, -, -, h, -⟩ := hy.sym_at (List.getElem?_eq_getElem hk)
    exact h
theorem map_id_of {E : Type} {f : E → E} : ∀ {l : List E}, (∀ x ∈ l, f x = x) → l.map f = l
  | [], _ => rfl
  | x :: l, h => by rw [List.map_cons, h x (by simp), map_id_of fun y hy => h y (by simp [hy])]
theorem w32_id {a : Nat} (h : a < 4294967296) : w32 ((a : Int) + (0 : Nat)) = a := by unfold w32; omega
theorem move_zero {o : Ob} (h : Ob32 o) : moveOb o 0 = o := by
  obtain ⟨e, s, y, r⟩ := o
  have h1 : s.map (fun s => { s with addr := w32 ((s.addr : Int) + (0 : Nat)) }) = s := map_id_of fun x hx => by rw [w32_id (h.2.1 x hx)]
  have h2 : y.map (fun s => { s with addr := w32 ((s.addr : Int) + (0 : Nat)) }) = y := map_id_of fun x hx => by rw [w32_id (h.2.2 x hx)]
  show Ob.mk (w32 ((e : Int) + (0 : Nat))) _ _ _ = _
  rw [w32_id h.1]
  congr 1
theorem w32_back {a m k : Nat} (h : a < 4294967296) (hk : w32 (0 - (m : Int)) = k) : w32 ((w32 ((a : Int) + m) : Nat) + (k : Int)) = a := by
  rw [← hk]
  unfold w32
  omega
theorem move_back {o : Ob} {m k : Nat} (h : Ob32 o) (hk : w32 (0 - (m : Int)) = k) : moveOb (moveOb o m) k = o := by
  obtain ⟨e, s, y, r⟩ := o
  show Ob.mk (w32 (((w32 ((e : Int) + m) : Nat) : Int) + k)) ((s.map fun s => { s with addr := w32 ((s.addr : Int) + m) }).map fun s => { s with addr := w32 ((s.addr : Int) + k) }) ((y.map fun s => { s with addr := w32 ((s.addr : Int) + m) }).map fun s => { s with addr := w32 ((s.addr : Int) + k) }) r = _
  rw [w32_back h.1 hk, List.map_map, List.map_map, map_id_of (l := s) fun x hx => ?_, map_id_of (l := y) fun x hx => ?_]
  · show ({ x with addr := w32 (((w32 ((x.addr : Int) + m) : Nat) : Int) + k) } : Sy) = x
    rw [w32_back (h.2.2 x hx) hk]
  · show ({ x with addr := w32 (((w32 ((x.addr : Int) + m) : Nat) : Int) + k) } : Sec) = x
    rw [w32_back (h.2.1 x hx) hk]
end Go.Proofs.Ytnlofhbimfcejaa
