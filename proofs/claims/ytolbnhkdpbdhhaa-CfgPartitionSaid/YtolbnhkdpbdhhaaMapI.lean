/- Maps of plain keys inside a fence: look-up with ok, range, the range's step; a range through a round that keeps the walks. No program in sight. -/
import Derived.Test.YtolbnhkdpbdhhaaMap
import Derived.Maps.OwnIn
import Derived.Sort.MapsRangeIn
import Derived.RangeFuncSeq
import Derived.RangeFuncKeeps
namespace Go.Deco
open Go Go.RowKit Go.Maps
set_option linter.unusedVariables false
variable {F : Fence} {nF : Nat} {P : Program} {k : TypeId} {κ : Type} {G : KeyG P k κ} (w : World) {ops : Array Oper} {rest : List Oper} {o : Oper} {a : Act} {Q : Exit → Act → World → Prop}

/-- 'v, ok := m[k]' in a fence. -/
theorem wpListIn_lookOk (hg : o.guard = none) (m x : Operand) (t : TypeId) (hop : o.op = Op.lookup t m x true) (e : TypeId) (ht : P.underlying t = some (.map k e)) (z : Value) (hz : (zeroValue e).run P w = .ok z w)
    (G : KeyG P k κ) (b n : Nat) (f : κ → Option Value) (hm : a.eval m = .map (some b)) (h : MapG G w b n f) (kx : κ) (hx : a.eval x = G.val kx) (hok : G.ok kx) (v : Value) (hv : (f kx).getD z = v) (is : Bool) (hi : (f kx).isSome = is)
    (hK : wpListIn F nF P ops Q rest (a.put o.dst (.tuple #[v, .bool is])) w) : wpListIn F nF P ops Q (o :: rest) a w := by
  refine wpListIn_plain hg fun K' hK' => ?_
  obtain ⟨D, h1, h2⟩ := h
  have hrun := (ownsMap_look h1 G.law ht hz (G.key hok)).2
  rw [← h2, hv, hi] at hrun
  unfold Oper.wpIn
  refine ⟨by simp [Oper.about, hop], ?_⟩
  rw [Oper.semAt_plain F _ _ (by rw [hop]; intro c hc'; cases hc')]
  simp [execOp, hop, hm, hx, hrun, Result.andThen]
  exact hK' _ _ hK
/-- 'range m' in a fence. -/
theorem wpListIn_rangeG (hg : o.guard = none) (m : Operand) (t : TypeId) (hop : o.op = Op.range t m) (e : TypeId) (ht : P.underlying t = some (.map k e))
    (G : KeyG P k κ) (b n : Nat) (f : κ → Option Value) (hm : a.eval m = .map (some b)) (h : MapG G w b n f)
    (hK : ∀ w' cnt, cnt ≤ n → RangeG G w' b w.heap.size n f (fun x => (f x).isSome) cnt → w.grownBy w' none → w'.heap.size = w.heap.size + 1 → wpListIn F nF P ops Q rest (a.put o.dst (.pointer (some ⟨w.heap.size, 0, none⟩))) w') : wpListIn F nF P ops Q (o :: rest) a w := by
  refine wpListIn_plain hg fun K' hK' => ?_
  obtain ⟨w', hrun, ⟨cnt, r0, r1⟩, r2, r3⟩ := h.range ht
  unfold Oper.wpIn
  refine ⟨by simp [Oper.about, hop], ?_⟩
  rw [Oper.semAt_plain F _ _ (by rw [hop]; intro c hc'; cases hc')]
  simp [execOp, hop, hm, hrun, Result.andThen]
  exact hK' _ _ (hK w' cnt r0 r1 r2 r3)
/-- The range's step in a fence. -/
theorem wpListIn_nextG [DecidableEq κ] (hg : o.guard = none) (it : Operand) (hop : o.op = Op.next it false) (G : KeyG P k κ) (b r n : Nat) (f : κ → Option Value) (left : κ → Bool) (cnt : Nat) (hit : a.eval it = .pointer (some ⟨r, 0, none⟩)) (h : RangeG G w b r n f left cnt)
    (hDone : cnt = 0 → (∀ x, G.ok x → left x = false) → wpListIn F nF P ops Q rest (a.put o.dst (.tuple #[.bool false])) w)
    (hMore : ∀ x v w' cnt', G.ok x → left x = true → f x = some v → RangeG G w' b r n f (fun j => left j && !decide (j = x)) cnt' → cnt' < cnt → w.grownBy w' (some r) → w'.heap.size = w.heap.size →
      (Instr.entry (.pointer (some ⟨r, 0, none⟩))).run P w' = .ok (.tuple #[G.val x, v]) w' → wpListIn F nF P ops Q rest (a.put o.dst (.tuple #[.bool true, G.val x, v])) w') : wpListIn F nF P ops Q (o :: rest) a w := by
  refine wpListIn_plain hg fun K' hK' => ?_
  unfold Oper.wpIn
  refine ⟨by simp [Oper.about, hop], ?_⟩
  rw [Oper.semAt_plain F _ _ (by rw [hop]; intro c hc'; cases hc')]
  rcases h.next o.type with ⟨h0, hl, hrun⟩ | ⟨x, v, w', cnt', h1, h2, h3, hrun, h4, h5, h6, h7, h8⟩
  · simp [execOp, hop, hit, hrun, Result.andThen]
    exact hK' _ _ (hDone h0 hl)
  · simp [execOp, hop, hit, hrun, Result.andThen]
    exact hK' _ _ (hMore x v w' cnt' h1 h2 h3 h4 h5 h6 h7 h8)
/-- .. at keys of kind uint32, the key's value written out. -/
theorem wpListIn_nextU (hg : o.guard = none) (it : Operand) (hop : o.op = Op.next it false) (hk : P.underlying k = some (.int .u32)) (b r n : Nat) (f : Nat → Option Value) (left : Nat → Bool) (cnt : Nat) (hit : a.eval it = .pointer (some ⟨r, 0, none⟩)) (h : RangeG (u32K hk) w b r n f left cnt)
    (hDone : cnt = 0 → (∀ x, x < 4294967296 → left x = false) → wpListIn F nF P ops Q rest (a.put o.dst (.tuple #[.bool false])) w)
    (hMore : ∀ (x : Nat) v w' cnt', x < 4294967296 → left x = true → f x = some v → RangeG (u32K hk) w' b r n f (fun j => left j && !decide (j = x)) cnt' → cnt' < cnt → w.grownBy w' (some r) → w'.heap.size = w.heap.size →
      (Instr.entry (.pointer (some ⟨r, 0, none⟩))).run P w' = .ok (.tuple #[.int .u32 x, v]) w' → wpListIn F nF P ops Q rest (a.put o.dst (.tuple #[.bool true, .int .u32 x, v])) w') : wpListIn F nF P ops Q (o :: rest) a w :=
  wpListIn_nextG w hg it hop (u32K hk) b r n f left cnt hit h hDone hMore
/-- A range under way through what keeps the walks. -/
theorem RangeG.walks {w w' : World} {b r n : Nat} {f : κ → Option Value} {left : κ → Bool} {cnt : Nat} (h : RangeG G w b r n f left cnt) (hk : KeepsWalks w w') : RangeG G w' b r n f left cnt := by
  obtain ⟨D, lf, h1, h2, h3⟩ := h
  exact ⟨D, lf, h1.of_walks hk, h2, h3⟩
end Go.Deco
