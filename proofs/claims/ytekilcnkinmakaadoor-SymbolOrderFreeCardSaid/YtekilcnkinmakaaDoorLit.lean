/- Literals of numbers as slices; rows of rows. No program in sight. -/
import Derived.Test.YtekilcnkinmakaaDoorBase
namespace Go.Deco
open Go Go.RowKit
theorem Sl_ss_at {E : Type} {R : Rep E} {w : World} {S : Nat → Prop} {A : Option Addr} {n c k : Nat} {o : List (List E)} {l : List E} (h : Sl (slR R) w S (.slice A n c) o) (hk : o[k]? = some l) :
    ∃ b off A' c', A = some ⟨b, off, none⟩ ∧ w.cell? ⟨b, off + k, none⟩ = some (.slice A' l.length c') ∧ Sl R w S (.slice A' l.length c') l := by
  obtain ⟨b, off, cs, hA, ⟨v, hcs, hs⟩, hc⟩ := h.get hk
  obtain ⟨A', c', rfl, _, _⟩ := hs.form
  subst hcs
  exact ⟨b, off, A', c', hA, by simpa [slR] using hc 0 _ rfl, hs⟩
theorem sl_lit (w : World) (l : List Nat) (h : ∀ x ∈ l, x < 4294967296) (hm : l.length ≤ maxLen) (t : TypeId) : Sl u32R (w.alloc (.cells (l.map (fun x : Nat => Value.int .u32 x)).toArray t)) All (.slice (some ⟨w.heap.size, 0, none⟩) l.length l.length) l :=
  sl_of_chunks trivial (chunks_num.2 ⟨rfl, h⟩) (fun j u hu => by simpa using hu) (Nat.le_refl _) hm
end Go.Deco
