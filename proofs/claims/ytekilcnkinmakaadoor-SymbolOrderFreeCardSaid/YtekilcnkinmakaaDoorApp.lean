/- append of one element just laid, the heap's size spelled out by the walk. No program in sight. -/
import Derived.Test.YtekilcnkinmakaaDoorBase
namespace Go.Deco
open Go Go.RowKit
section
variable {E : Type} {R : Rep E} {base : Nat} {e : TypeId} {T : Nat → Prop} {P : Program}
theorem wpList_app1s {ops : Array Oper} {rest : List Oper} {o : Oper} {a : Act} {Q : Exit → Act → World → Prop} {W : World} {cs : List Value} {u : TypeId} (hgd : o.guard = none) (s x : Operand) (t : TypeId)
    (ho : o.op = .call { callee := .builtin .append, args := #[s, x], argTypes := #[t, t] })
    (base : Nat) (e : TypeId) (i : TypeInfo) (z : Value) (size bytes : Nat) (ht : P.underlying t = some (.slice e)) (hi : P.info? e = some i) (hz : i.zero = some z)
    (hsize : i.size = size) (hby : i.bytes = bytes) (hzs : z.cells.size = size) (R : Rep E) (hR : R.size = size)
    (v : Value) (l : List E) (hs : a.eval s = v) (hown : OwnS R W base e T v l)
    (q : Nat) (hq : W.heap.size = q) (y : E) (hx : a.eval x = .slice (some ⟨q, 0, none⟩) 1 1) (hy : R.rel W (fun b => T b ∧ some b ≠ v.ownBlock) cs y)
    (h63 : l.length + 1 ≤ 9223372036854775807) (hbytes : (l.length + 1) * bytes ≤ 140737488355328) (hbase : base ≤ W.heap.size)
    (h : ∀ A' c' W', OwnS R W' base e T (.slice A' (l.length + 1) c') (l ++ [y]) → (W.alloc (.cells cs.toArray u)).grownBy W' v.ownBlock →
      wpList P ops Q rest (a.put o.dst (.slice A' (l.length + 1) c')) W') :
    wpList P ops Q (o :: rest) a (W.alloc (.cells cs.toArray u)) := by
  subst hq
  exact wpList_app1 hgd s x t ho base e i z size bytes ht hi hz hsize hby hzs R hR v l hs hown y hx hy h63 hbytes hbase h
/-- .. and where the new slice lies. -/
theorem wpList_app1l {ops : Array Oper} {rest : List Oper} {o : Oper} {a : Act} {Q : Exit → Act → World → Prop} {W : World} {cs : List Value} {u : TypeId} (hgd : o.guard = none) (s x : Operand) (t : TypeId)
    (ho : o.op = .call { callee := .builtin .append, args := #[s, x], argTypes := #[t, t] })
    (base : Nat) (e : TypeId) (i : TypeInfo) (z : Value) (size bytes : Nat) (ht : P.underlying t = some (.slice e)) (hi : P.info? e = some i) (hz : i.zero = some z)
    (hsize : i.size = size) (hby : i.bytes = bytes) (hzs : z.cells.size = size) (R : Rep E) (hR : R.size = size)
    (v : Value) (l : List E) (hs : a.eval s = v) (hown : OwnS R W base e T v l)
    (q : Nat) (hq : W.heap.size = q) (y : E) (hx : a.eval x = .slice (some ⟨q, 0, none⟩) 1 1) (hy : R.rel W (fun b => T b ∧ some b ≠ v.ownBlock) cs y)
    (h63 : l.length + 1 ≤ 9223372036854775807) (hbytes : (l.length + 1) * bytes ≤ 140737488355328) (hbase : base ≤ W.heap.size)
    (h : ∀ A' c' W', OwnS R W' base e T (.slice A' (l.length + 1) c') (l ++ [y]) → (W.alloc (.cells cs.toArray u)).grownBy W' v.ownBlock →
      (∀ g, (Value.slice A' (l.length + 1) c').ownBlock = some g → v.ownBlock = some g ∨ W.heap.size < g) →
      wpList P ops Q rest (a.put o.dst (.slice A' (l.length + 1) c')) W') :
    wpList P ops Q (o :: rest) a (W.alloc (.cells cs.toArray u)) := by
  subst hq
  refine wpList_app hgd s x t ho base e i z size bytes ht hi hz hsize hby hzs R hR v l hs (hown.al _) ⟨W.heap.size, 0, none⟩ 1 1 [y] cs hx rfl
    (Chunks.single (R.ext ((Ext.refl W).alloc _) hy)) (new_cells W cs u) h63 hbytes (by simp; omega) fun A' c' W' h1 h2 h3 => h A' c' W' h1 h2 fun g hg => ?_
  rcases h3 with h3 | h3
  · exact .inl (by rw [← h3]; exact hg)
  · have h4 : some g = some (W.alloc (.cells cs.toArray u)).heap.size := hg.symm.trans h3
    injection h4 with h4
    simp at h4
    exact .inr (by omega)
end
end Go.Deco
