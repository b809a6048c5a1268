/- The text of a type and its name as plain law. No program in sight. How the laws of chapter 34 count the parts of a type. No program in sight. -/
import Derived.Test.YtacmjhcfjhpkeaaGreatDoorPlbm
import Derived.Lib.ItoaNum
namespace Go.Deco
open Go Go.RowKit
set_option linter.unusedSimpArgs false
set_option linter.unusedVariables false

/-! ### decimal numbers -/
def decF : Nat → Nat → List Nat
 | 0, n => [48 + n % 10]
 | f + 1, n => if n < 10 then [48 + n] else decF f (n / 10) ++ [48 + n % 10]
/-- The decimal digits of a number below 10^20. -/
def decN (n : Nat) : List Nat := decF 20 n
theorem decF_one {f n : Nat} (h : n < 10) : decF f n = [48 + n] := by
 cases f with
 | zero => rw [decF, Nat.mod_eq_of_lt h]
 | succ f => rw [decF, if_pos h]
theorem decF_more {f n : Nat} (h : 10 ≤ n) (hf : n < 10 ^ (f + 1)) : ∃ g, f = g + 1 ∧ decF f n = decF g (n / 10) ++ [48 + n % 10] ∧ n / 10 < 10 ^ (g + 1) := by
 cases f with
 | zero => simp at hf; omega
 | succ g => exact ⟨g, rfl, by rw [decF, if_neg (by omega)], by rw [Nat.pow_succ] at hf; omega⟩
theorem decF_len : ∀ (f n : Nat), (decF f n).length ≤ f + 1 ∧ 1 ≤ (decF f n).length
 | 0, n => by simp [decF]
 | f + 1, n => by
  rw [decF]
  split
  ·simp
  ·have := decF_len f (n / 10)
   simp
   omega
theorem decN_len (n : Nat) : (decN n).length ≤ 21 ∧ 1 ≤ (decN n).length := decF_len 20 n
theorem decF_lt : ∀ (f n : Nat), ∀ x ∈ decF f n, x < 256
 | 0, n, x, hx => by
  have : x = 48 + n % 10 := by simpa [decF] using hx
  omega
 | f + 1, n, x, hx => by
  rw [decF] at hx
  split at hx
  ·have : x = 48 + n := by simpa using hx
   omega
  ·rcases List.mem_append.1 hx with hx | hx
   ·exact decF_lt f _ x hx
   ·have : x = 48 + n % 10 := by simpa using hx
    omega
theorem dec_digits : ∀ (f n : Nat), n < 10 ^ (f + 1) → Lib.decDigits n = (decF f n).map fun x => UInt8.ofNat x
 | 0, n, h => by
  rw [Lib.decDigits, dif_pos (by simpa using h), decF, Nat.mod_eq_of_lt (by simpa using h)]
  rfl
 | f + 1, n, h => by
  rw [Lib.decDigits, decF]
  split
  ·rfl
  ·rw [dec_digits f (n / 10) (by rw [Nat.pow_succ] at h; omega), List.map_append]
   rfl
theorem itoa_dec {n : Nat} (h : n < 10 ^ 21) : Lib.itoa (n : Int) = (decN n).map fun x => UInt8.ofNat x := by
 unfold Lib.itoa
 rw [if_neg (by omega)]
 exact dec_digits 20 n h

/-! ### texts -/
mutual
def txtT : Ty → List Nat
 | .mk k s c e f =>
  if k = 0 then [63] else if k = 6 then [97, 110, 121] else if k = 1 then [105, 110, 116] ++ decN (8 * s).toNat else if k = 2 then [117, 105, 110, 116] ++ decN (8 * s).toNat
  else if k = 3 then 42 :: txtE e else if k = 4 then ([91] ++ decN c.toNat ++ [93]) ++ txtE e else 123 :: (txtF true f ++ [125])
def txtE : List Ty → List Nat
 | [] => []
 | t :: _ => txtT t
def txtF : Bool → List (Int × Ty) → List Nat
 | _, [] => []
 | b, (o, t) :: l => (if b then [] else [44, 32]) ++ ((decN o.toNat ++ [58, 32]) ++ (txtT t ++ txtF false l))
end
/-- The text of one field of several. -/
def txt1 (b : Bool) (f : Int × Ty) : List Nat := (if b then [] else [44, 32]) ++ ((decN f.1.toNat ++ [58, 32]) ++ txtT f.2)
theorem txtF_app : ∀ (l m : List (Int × Ty)) (b : Bool), txtF b (l ++ m) = txtF b l ++ txtF (b && l.isEmpty) m
 | [], m, b => by simp [txtF]
 | (o, t) :: l, m, b => by
  rw [List.cons_append, txtF, txtF, txtF_app l m false]
  simp
theorem txtF_snoc {l : List (Int × Ty)} {k : Nat} {f : Int × Ty} (h : l[k]? = some f) : txtF true (l.take (k + 1)) = txtF true (l.take k) ++ txt1 (decide (k = 0)) f := by
 have hk := (List.getElem?_eq_some_iff.1 h).1
 have ht : l.take (k + 1) = l.take k ++ [f] := by rw [List.take_add_one, h]; rfl
 rw [ht, txtF_app]
 congr 1
 have hb : (true && (l.take k).isEmpty) = decide (k = 0) := by
  rw [Bool.eq_iff_iff]
  simp only [Bool.true_and, List.isEmpty_iff, List.take_eq_nil_iff, decide_eq_true_eq]
  constructor
  ·rintro (h | h)
   ·exact h
   ·subst h; simp at hk
  ·exact .inl
 rw [hb]
 obtain ⟨o, t⟩ := f
 simp [txtF, txt1]
mutual
/-- The number of parts of a type. -/
def nodT : Ty → Nat
 | .mk _ _ _ e f => 1 + nodE e + nodF f
def nodE : List Ty → Nat
 | [] => 0
 | t :: l => nodT t + nodE l
def nodF : List (Int × Ty) → Nat
 | [] => 0
 | (_, t) :: l => nodT t + nodF l
end
theorem nod_pos (t : Ty) : 1 ≤ nodT t := by cases t; rw [nodT]; omega
mutual
theorem txt_len : ∀ (t : Ty), (txtT t).length ≤ 64 * nodT t
 | .mk k s c e f => by
  have h1 := decN_len (8 * s).toNat
  have h2 := decN_len c.toNat
  have he := txtE_len e
  have hf := txtF_len true f
  rw [txtT, nodT]
  repeat' split
  all_goals (simp only [List.length_append, List.length_cons, List.length_nil]; omega)
theorem txtE_len : ∀ (l : List Ty), (txtE l).length ≤ 64 * nodE l
 | [] => by simp [txtE]
 | t :: l => by
  have := txt_len t
  rw [txtE, nodE]
  omega
theorem txtF_len : ∀ (b : Bool) (l : List (Int × Ty)), (txtF b l).length ≤ 64 * nodF l
 | _, [] => by simp [txtF]
 | b, (o, t) :: l => by
  have h1 := decN_len o.toNat
  have h2 := txt_len t
  have h3 := txtF_len false l
  have h4 := nod_pos t
  have h5 : (if b = true then ([] : List Nat) else [44, 32]).length ≤ 2 := by split <;> simp
  rw [txtF, nodF]
  simp only [List.length_append, List.length_cons, List.length_nil]
  have h6 : (txtT t).length ≤ 64 * nodT t - 27 ∨ 64 * nodT t - 27 < (txtT t).length := by omega
  have h7 : (txtT t).length + 27 ≤ 64 * nodT t := txt_len27 t
  omega
theorem txt_len27 : ∀ (t : Ty), (txtT t).length + 27 ≤ 64 * nodT t
 | .mk k s c e f => by
  have h1 := decN_len (8 * s).toNat
  have h2 := decN_len c.toNat
  have he := txtE_len e
  have hf := txtF_len true f
  rw [txtT, nodT]
  repeat' split
  all_goals (simp only [List.length_append, List.length_cons, List.length_nil]; omega)
end
theorem decN_lt (n : Nat) : ∀ x ∈ decN n, x < 256 := decF_lt 20 n
theorem ltl_app {a b : List Nat} (h1 : ∀ x ∈ a, x < 256) (h2 : ∀ x ∈ b, x < 256) : ∀ x ∈ a ++ b, x < 256 := fun x hx => (List.mem_append.1 hx).elim (h1 x) (h2 x)
theorem ltl_cons {c : Nat} {b : List Nat} (h1 : c < 256) (h2 : ∀ x ∈ b, x < 256) : ∀ x ∈ c :: b, x < 256 := fun x hx => (List.mem_cons.1 hx).elim (fun e => by omega) (h2 x)
mutual
theorem txt_lt : ∀ (t : Ty), ∀ x ∈ txtT t, x < 256
 | .mk k s c e f => by
  rw [txtT]
  split
  ·decide
  split
  ·decide
  split
  ·exact ltl_app (by decide) (decN_lt _)
  split
  ·exact ltl_app (by decide) (decN_lt _)
  split
  ·exact ltl_cons (by decide) (txtE_lt e)
  split
  ·exact ltl_app (ltl_app (ltl_app (by decide) (decN_lt _)) (by decide)) (txtE_lt e)
  ·exact ltl_cons (by decide) (ltl_app (txtF_lt true f) (by decide))
theorem txtE_lt : ∀ (l : List Ty), ∀ x ∈ txtE l, x < 256
 | [] => by rw [txtE]; intro x hx; cases hx
 | t :: l => by rw [txtE]; exact txt_lt t
theorem txtF_lt : ∀ (b : Bool) (l : List (Int × Ty)), ∀ x ∈ txtF b l, x < 256
 | _, [] => by rw [txtF]; intro x hx; cases hx
 | b, (o, t) :: l => by
  rw [txtF]
  refine ltl_app ?_ (ltl_app (ltl_app (decN_lt _) (by decide)) (ltl_app (txt_lt t) (txtF_lt false l)))
  cases b <;> decide
end
/-- The text of a type; none of a type that is not well-formed. -/
def printT (t : Ty) : List Nat := if goodT t then txtT t else []

/-! ### names -/
def fnvS (h c : Nat) : Nat := ((h ^^^ c) * 16777619) % 4294967296
def fnvL (l : List Nat) : Nat := l.foldl fnvS 2166136261
def hexc' (d : Nat) : Nat := if d < 10 then 48 + d else 87 + d
/-- The last digits at base 16. -/
def lowD : Nat → Nat → List Nat
 | 0, _ => []
 | k + 1, h => lowD k (h / 16) ++ [hexc' (h % 16)]
theorem lowD_zero : ∀ (k : Nat), lowD k 0 = List.replicate k 48
 | 0 => rfl
 | k + 1 => by rw [lowD, Nat.zero_div, lowD_zero k, List.replicate_succ']; rfl
def preT (t : Ty) : List Nat := if t.kind = 5 then [115, 95] else if t.kind = 4 then [97, 95] else [116, 95]
def nameT (t : Ty) : List Nat := if goodT t then preT t ++ lowD 8 (fnvL (txtT t)) else []
end Go.Deco

namespace Go.Deco
open Go Go.RowKit
set_option linter.unusedVariables false
mutual
def ptT : Ty → Int → Int → Int
 | .mk k s c e f, m, n => if m < 1 ∨ n < 1 ∨ 2 < e.length ∨ 70 < f.length ∨ (1200 < c ∧ 0 < e.length) then -1 else ptF f (m - 1) (ptE e (m - 1) (n - 1))
def ptE : List Ty → Int → Int → Int
 | [], _, n => n
 | t :: l, m, n => ptE l m (if 0 ≤ n then ptT t m n else n)
def ptF : List (Int × Ty) → Int → Int → Int
 | [], _, n => n
 | (_, t) :: l, m, n => ptF l m (if 0 ≤ n then ptT t m n else n)
end
end Go.Deco
