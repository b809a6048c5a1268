/- decompilerref06.Insert: a number put into an ascending list. -/
import Derived.Test.YtolbnhkdpbdhhaaRows
import Derived.Test.YtolbnhkdpbdhhaaSlc
import Derived.Test.YtolbnhkdpbdhhaaSpecSec
import Derived.BigQuiet
namespace Go.Proofs.Ytolbnhkdpbdhhaa
open Go.RowKit Go.Deco
set_option linter.unusedVariables false

theorem info_w32 : (Try.prog.info? 39).map (fun i => (i.zero, i.size, i.bytes)) = some (some (.int .u32 0), 1, 4) := by kernel_rfl

/-- What Insert computes. -/
def insOf (l : List Nat) (x : Nat) : List Nat :=
  match l with
  | [] => [x]
  | y :: r => if y < x then y :: insOf r x else if y = x then y :: r else x :: y :: r
theorem insOf_at : ∀ {l : List Nat} {x k : Nat}, (∀ j y, j < k → l[j]? = some y → y < x) → k ≤ l.length → insOf l x = l.take k ++ insOf (l.drop k) x
  | _, _, 0, _, _ => by simp
  | [], _, k + 1, _, h => by simp at h
  | y :: r, x, k + 1, h, hk => by
    have h0 := h 0 y (by omega) rfl
    have := insOf_at (l := r) (x := x) (k := k) (fun j z hj hz => h (j + 1) z (by omega) (by simpa using hz)) (by simpa using hk)
    simp [insOf, h0, this]
theorem insOf_new {l : List Nat} {x k : Nat} (h : ∀ j y, j < k → l[j]? = some y → y < x) (hk : k ≤ l.length) (hn : ∀ y, l[k]? = some y → x < y) : insOf l x = (l.take k ++ [x]) ++ l.drop k := by
  rw [insOf_at h hk, List.append_assoc]
  congr 1
  cases hd : l.drop k with
  | nil => rfl
  | cons y r =>
    have hy : l[k]? = some y := by
      have := congrArg (fun m => m[0]?) hd
      simpa using this
    have := hn y hy
    rw [insOf, if_neg (by omega), if_neg (by omega)]
    rfl
theorem insOf_old {l : List Nat} {x k : Nat} (h : ∀ j y, j < k → l[j]? = some y → y < x) (hk : l[k]? = some x) : insOf l x = l := by
  have hlt := (List.getElem?_eq_some_iff.1 hk).1
  rw [insOf_at h (by omega)]
  conv => rhs; rw [← List.take_append_drop k l]
  congr 1
  rw [drop_cons' hk, insOf, if_neg (by omega), if_pos rfl]
theorem insOf_length : ∀ (l : List Nat) (x : Nat), (insOf l x).length ≤ l.length + 1
  | [], x => by simp [insOf]
  | y :: r, x => by
    have := insOf_length r x
    rw [insOf]
    split
    · simp; omega
    · split <;> simp

/-- A list is handed back, in whatever memory. -/
def ListOf (w : World) (l : List Nat) (e : Ending) (w' : World) : Prop := Ext w w' ∧ ∃ A c, e = .returned (.slice A l.length c) ∧ Sl u32R w' All (.slice A l.length c) l

end Go.Proofs.Ytolbnhkdpbdhhaa
