/- Sections as plain data, and what the package 'section' computes of them. No program in sight. -/
import Derived.Test.YtekilcnkinmakaaDoorBase
namespace Go.Deco
open Go Go.RowKit

structure Sec where
  name : ByteArray
  addr : Nat
  data : List Nat
  wr : Bool
  ex : Bool

def okCh (c : Nat) : Bool := (97 ≤ c && c ≤ 122) || (65 ≤ c && c ≤ 90) || (48 ≤ c && c ≤ 57) || c == 95 || c == 46
def nameB (s : ByteArray) : Bool := s.data.toList.all (fun c => okCh c.toNat) && decide (1 ≤ s.size) && decide (s.size ≤ 32)

theorem okCh_iff (c : Nat) : okCh c = true ↔ (97 ≤ c ∧ c ≤ 122) ∨ (65 ≤ c ∧ c ≤ 90) ∨ (48 ≤ c ∧ c ≤ 57) ∨ c = 95 ∨ c = 46 := by
  simp [okCh, or_assoc]

def chAt (s : ByteArray) (k : Nat) : Nat := (s.data.toList[k]?.map (·.toNat)).getD 0
set_option maxRecDepth 100000 in
theorem chAt_lt (s : ByteArray) (k : Nat) : chAt s k < 256 := by
  unfold chAt
  cases s.data.toList[k]? with
  | none => simp
  | some x => simpa using x.toNat_lt

theorem bytes_cell (w : World) (s : ByteArray) (cap e m k : Nat) (hk : k < s.size) : (w.alloc (.cells (bytesRow s cap) e (m, m + 1))).cell? ⟨w.heap.size, k, none⟩ = some (.int .u8 (chAt s k)) := by
  have h1 : k < s.data.size := hk
  rw [World.cell?_alloc_mark, bytesRow_at s cap k h1]
  have h2 : k < s.data.toList.length := by simpa using h1
  simp [chAt, List.getElem?_eq_getElem h2]

set_option maxRecDepth 100000 in
theorem nameB_eq (s : ByteArray) : nameB s = (decide (∀ k, k < s.size → okCh (chAt s k) = true) && (decide (1 ≤ s.size) && decide (s.size ≤ 32))) := by
  have h : s.data.toList.all (fun c => okCh c.toNat) = decide (∀ k, k < s.size → okCh (chAt s k) = true) := by
    rw [Bool.eq_iff_iff, List.all_eq_true, decide_eq_true_iff]
    have hl : s.data.toList.length = s.size := by rw [Array.length_toList]; rfl
    constructor
    · intro h k hk
      have hk' : k < s.data.toList.length := by omega
      have := h _ (List.getElem_mem hk')
      simpa [chAt, List.getElem?_eq_getElem hk'] using this
    · intro h x hx
      obtain ⟨k, hk, rfl⟩ := List.getElem_of_mem hx
      have := h k (by omega)
      simpa [chAt, List.getElem?_eq_getElem hk] using this
  rw [nameB, h, Bool.and_assoc]

theorem nameB_no {s : ByteArray} {k : Nat} (hk : k < s.size) (h : ¬ okCh (chAt s k) = true) : false = nameB s := by
  rw [nameB_eq, decide_eq_false (fun hh => h (hh k hk))]; rfl
theorem nameB_yes {s : ByteArray} (h : ∀ k, k < s.size → okCh (chAt s k) = true) (h1 : 1 ≤ s.size) : decide ((s.size : Int) ≤ 32) = nameB s := by
  rw [nameB_eq, decide_eq_true h, decide_eq_true h1]
  rw [Bool.eq_iff_iff]
  simp
  omega
theorem nameB_zero {s : ByteArray} (h1 : ¬ 1 ≤ s.size) : false = nameB s := by
  rw [nameB_eq, decide_eq_false h1]
  simp

def secTo (s : Sec) : Nat := min (s.addr + s.data.length) 4294967295
def meetN (a b c d : Nat) : Bool := decide (max a c < min b d)
def secMeet (x y : Sec) : Bool := meetN x.addr (secTo x) y.addr (secTo y)
def secErr (pre : List Sec) (s : Sec) : Nat :=
  if 65536 < s.data.length then 6 else if nameB s.name = false then 3 else if pre.any (fun x => x.name.toList == s.name.toList) then 8
  else if 4294967295 < s.addr + s.data.length ∨ meetN s.addr (secTo s) 978944 983040 = true then 7 else 0
def firstErr (pre : List Sec) : List Sec → Nat
  | [] => 0
  | s :: r => if secErr pre s = 0 then firstErr (pre ++ [s]) r else secErr pre s
def overl (pre : List Sec) : List Sec → Bool
  | [] => false
  | s :: r => pre.any (fun x => secMeet x s) || overl (pre ++ [s]) r
def secCheck (l : List Sec) : Nat :=
  if 16 < l.length then 6 else if firstErr [] l ≠ 0 then firstErr [] l else if overl [] l then 10 else 0

theorem take_snoc' {E : Type} {l : List E} {k : Nat} {s : E} (hk : l[k]? = some s) : l.take (k + 1) = l.take k ++ [s] := by
  rw [List.take_add_one, hk]; rfl
theorem drop_cons' {E : Type} {l : List E} {k : Nat} {s : E} (hk : l[k]? = some s) : l.drop k = s :: l.drop (k + 1) := by
  obtain ⟨h, rfl⟩ := List.getElem?_eq_some_iff.1 hk
  exact List.drop_eq_getElem_cons h
theorem firstErr_step {l : List Sec} {k : Nat} {s : Sec} (hk : l[k]? = some s) (he : secErr (l.take k) s = 0) (hF : firstErr (l.take k) (l.drop k) = firstErr [] l) : firstErr (l.take (k + 1)) (l.drop (k + 1)) = firstErr [] l := by
  rw [← hF, drop_cons' hk, firstErr, if_pos he, take_snoc' hk]
theorem firstErr_hit {l : List Sec} {k : Nat} {s : Sec} {e : Nat} (h16 : ¬ 16 < l.length) (hk : l[k]? = some s) (he : secErr (l.take k) s = e) (h0 : e ≠ 0) (hF : firstErr (l.take k) (l.drop k) = firstErr [] l) : secCheck l = e := by
  have h1 : firstErr [] l = e := by rw [← hF, drop_cons' hk, firstErr, he, if_neg h0]
  rw [secCheck, if_neg h16, h1, if_pos h0]
theorem firstErr_end {l : List Sec} (hF : firstErr (l.take l.length) (l.drop l.length) = firstErr [] l) : firstErr [] l = 0 := by
  rw [← hF, List.drop_length]; rfl
theorem overl_step {l : List Sec} {k : Nat} {s : Sec} (hk : l[k]? = some s) (he : (l.take k).any (fun x => secMeet x s) = false) (hF : overl (l.take k) (l.drop k) = overl [] l) : overl (l.take (k + 1)) (l.drop (k + 1)) = overl [] l := by
  rw [← hF, drop_cons' hk, overl, he, take_snoc' hk, Bool.false_or]
theorem overl_hit {l : List Sec} {k : Nat} {s : Sec} (h16 : ¬ 16 < l.length) (h0 : firstErr [] l = 0) (hk : l[k]? = some s) (he : (l.take k).any (fun x => secMeet x s) = true) (hF : overl (l.take k) (l.drop k) = overl [] l) : secCheck l = 10 := by
  have h1 : overl [] l = true := by rw [← hF, drop_cons' hk, overl, he]; rfl
  rw [secCheck, if_neg h16, if_neg (by simp [h0]), h1]; rfl
theorem overl_end {l : List Sec} (h16 : ¬ 16 < l.length) (h0 : firstErr [] l = 0) (hF : overl (l.take l.length) (l.drop l.length) = overl [] l) : secCheck l = 0 := by
  have h1 : overl [] l = false := by rw [← hF, List.drop_length]; rfl
  rw [secCheck, if_neg h16, if_neg (by simp [h0]), h1]; rfl
theorem secCheck_many {l : List Sec} (h16 : 16 < l.length) : secCheck l = 6 := by rw [secCheck, if_pos h16]

/-- A section in memory: five cells. -/
def secR : Rep Sec where
  size := 5
  pos := by omega
  rel w S cs s := ∃ dv, cs = [.string s.name, .int .u32 s.addr, dv, .bool s.wr, .bool s.ex] ∧ Sl u8R w S dv s.data ∧ s.addr < 4294967296 ∧ s.name.size ≤ 9223372036854775807
  keep hk := fun ⟨dv, h1, h2, h3⟩ => ⟨dv, h1, h2.keep hk, h3⟩
  mono hk := fun ⟨dv, h1, h2, h3⟩ => ⟨dv, h1, h2.mono hk, h3⟩
  len := fun ⟨dv, h1, _⟩ => by rw [h1]; rfl
  one := fun ⟨dv, h1, h2, _⟩ u hu => by
    obtain ⟨A, c, rfl, _⟩ := h2.form
    rw [h1] at hu
    simp at hu
    rcases hu with rfl | rfl | rfl | rfl | rfl <;> rfl

theorem Sl.sec_at {w : World} {S : Nat → Prop} {A : Option Addr} {n c k : Nat} {l : List Sec} {s : Sec} (h : Sl secR w S (.slice A n c) l) (hk : l[k]? = some s) :
    ∃ b off dA dc, A = some ⟨b, off, none⟩ ∧ Sl u8R w S (.slice dA s.data.length dc) s.data ∧ s.data.length ≤ 9223372036854775807 ∧ s.addr < 4294967296 ∧ s.name.size ≤ 9223372036854775807 ∧
      w.cell? ⟨b, off + k * 5, none⟩ = some (.string s.name) ∧ w.cell? ⟨b, off + k * 5 + 1, none⟩ = some (.int .u32 s.addr) ∧ w.cell? ⟨b, off + k * 5 + 2, none⟩ = some (.slice dA s.data.length dc) ∧
      w.cell? ⟨b, off + k * 5 + 3, none⟩ = some (.bool s.wr) ∧ w.cell? ⟨b, off + k * 5 + 4, none⟩ = some (.bool s.ex) := by
  obtain ⟨b, off, cs, hA, ⟨dv, hcs, hd, h1, h2⟩, hc⟩ := h.get hk
  obtain ⟨dA, dc, rfl, h3, h4⟩ := hd.form
  subst hcs
  refine ⟨b, off, dA, dc, hA, hd, by omega, h1, h2, by simpa [secR] using hc 0 _ rfl, by simpa [secR, Nat.add_assoc] using hc 1 _ rfl, by simpa [secR, Nat.add_assoc] using hc 2 _ rfl, by simpa [secR, Nat.add_assoc] using hc 3 _ rfl, by simpa [secR, Nat.add_assoc] using hc 4 _ rfl⟩

theorem firstErr_big : ∀ (r pre : List Sec) {k : Nat} {s : Sec}, r[k]? = some s → 65536 < s.data.length → firstErr pre r ≠ 0
  | [], _, _, _, h, _ => by simp at h
  | x :: r, pre, 0, s, h, hb => by
    simp at h
    subst h
    rw [firstErr, secErr, if_pos hb]
    simp
  | x :: r, pre, k + 1, s, h, hb => by
    rw [firstErr]
    split
    · exact firstErr_big r _ (by simpa using h) hb
    · assumption
theorem secCheck_big {l : List Sec} {k : Nat} {s : Sec} (hk : l[k]? = some s) (hb : 65536 < s.data.length) : secCheck l ≠ 0 := by
  have := firstErr_big l [] hk hb
  rw [secCheck]
  split
  · omega
  · first
      | (rw [if_pos this]; exact this)
      | exact this

end Go.Deco
