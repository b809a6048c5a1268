/- The plain law of RelocRebase: each relocation's number moves with the distance, all other bytes are equal. -/
import Derived.Test.YtnlofhbimfcejaaRelP
import Derived.Test.YtnlofhbimfcejaaRelH
namespace Go.Proofs.Ytnlofhbimfcejaa
open Go.RowKit Go.Deco
set_option linter.unusedSimpArgs false
set_option linter.unusedVariables false

/-- Byte j of section i. -/
def byt (l : List Sec) (i j : Nat) : Option Nat := (l[i]?).bind fun s => s.data[j]?
theorem byt_at {l : List Sec} {i j : Nat} {s : Sec} (h : l[i]? = some s) : byt l i j = s.data[j]? := by
  unfold byt
  rw [h]
  rfl
/-- The four bytes of one of the relocations. -/
def cov (rs : List Rl) (i j : Nat) : Prop := ∃ r ∈ rs, r.sec = (i : Int) ∧ r.off ≤ (j : Int) ∧ (j : Int) < r.off + 4
theorem cov_snoc {l : List Rl} {k : Nat} {r : Rl} (hk : l[k]? = some r) (i j : Nat) : cov (l.take (k + 1)) i j ↔ cov (l.take k) i j ∨ (r.sec = (i : Int) ∧ r.off ≤ (j : Int) ∧ (j : Int) < r.off + 4) := by
  unfold cov
  rw [take_snoc' hk]
  constructor
  · rintro ⟨x, hx, h⟩
    rcases List.mem_append.1 hx with hx | hx
    · exact .inl ⟨x, hx, h⟩
    · rw [List.mem_singleton] at hx
      subst hx
      exact .inr h
  · rintro (⟨x, hx, h⟩ | h)
    · exact ⟨x, by simp [hx], h⟩
    · exact ⟨r, by simp, h⟩
theorem bytes4_len (n : Nat) : (bytes4 n).length = 4 := rfl
theorem put4_in {d : List Nat} {f n t : Nat} (h : f + 4 ≤ d.length) (ht : t < 4) : (put4 d f n)[f + t]? = (bytes4 n)[t]? := by
  have e : min f d.length = f := by omega
  unfold put4
  rw [List.append_assoc, List.getElem?_append_right (by rw [List.length_take]; omega), List.getElem?_append_left (by rw [List.length_take, bytes4_len]; omega)]
  congr 1
  rw [List.length_take]
  omega
theorem put4_out {d : List Nat} {f n k : Nat} (h : f + 4 ≤ d.length) (hk : k < f ∨ f + 4 ≤ k) : (put4 d f n)[k]? = d[k]? := by
  have e : min f d.length = f := by omega
  unfold put4
  rcases hk with hk | hk
  · rw [List.append_assoc, List.getElem?_append_left (by rw [List.length_take]; omega), List.getElem?_take_of_lt hk]
  · rw [List.getElem?_append_right (by simp [bytes4]; omega), List.getElem?_drop]
    congr 1
    simp [bytes4]
    omega
theorem patch_out {L : List Sec} {syms : List Sy} {r : Rl} {i j : Nat} (h0 : relOne L syms r = 0) (hn : ¬ (r.sec = (i : Int) ∧ r.off ≤ (j : Int) ∧ (j : Int) < r.off + 4)) : byt (patchS syms L r) i j = byt L i j := by
  obtain ⟨kk, t, f, y, q1, q2, q3, q4, -, -⟩ := relOne_zero h0
  unfold patchS
  rw [q1, Int.toNat_natCast, q2]
  simp only [q3, Int.toNat_natCast]
  by_cases e : kk = i
  · subst e
    rw [byt_at (List.getElem?_set_self (List.getElem?_eq_some_iff.1 q2).1), byt_at q2]
    rw [q1, q3] at hn
    exact put4_out q4 (by omega)
  · unfold byt
    rw [List.getElem?_set_ne e]
theorem fold_out {syms : List Sy} {i j : Nat} : ∀ (l : List Rl) {L : List Sec}, (∀ r ∈ l, relOne L syms r = 0) → ¬ cov l i j → byt (l.foldl (patchS syms) L) i j = byt L i j
  | [], _, _, _ => rfl
  | r :: l, L, hv, hn => by
    rw [List.foldl_cons]
    have h0 := hv r (by simp)
    have hsh := patch_shape h0
    rw [fold_out l (fun x hx => by rw [relOne_shape hsh]; exact hv x (by simp [hx])) (fun ⟨x, hx, h⟩ => hn ⟨x, by simp [hx], h⟩)]
    exact patch_out h0 fun h => hn ⟨r, by simp, h⟩
theorem relNum_key {syms : List Sy} {s s' : Sec} {r : Rl} (h : secKey s' = secKey s) : relNum syms s' r = relNum syms s r := by
  simp only [secKey, Prod.mk.injEq] at h
  unfold relNum
  rw [h.2.1]
theorem sharedTo_pair : ∀ {l pre : List Rl}, sharedTo pre l = false → ∀ {k : Nat} {r : Rl}, l[k]? = some r → ∀ b ∈ pre ++ l.take k, shareB r b = false
  | [], _, _, _, _, hk, _, _ => by simp at hk
  | x :: l, pre, h, 0, r, hk, b, hb => by
    simp at hk
    subst hk
    rw [sharedTo, Bool.or_eq_false_iff] at h
    have := h.1
    rw [List.any_eq_false] at this
    simpa using this b (by simpa using hb)
  | x :: l, pre, h, k + 1, r, hk, b, hb => by
    rw [sharedTo, Bool.or_eq_false_iff] at h
    refine sharedTo_pair h.2 (k := k) (by simpa using hk) b ?_
    simpa using hb
theorem shared_two {l : List Rl} (h : sharedTo [] l = false) {j k : Nat} {a b : Rl} (hjk : j ≠ k) (ha : l[j]? = some a) (hb : l[k]? = some b) : ¬ (a.sec = b.sec ∧ a.off < b.off + 4 ∧ b.off < a.off + 4) := by
  have key : ∀ {j k : Nat} {a b : Rl}, j < k → l[j]? = some a → l[k]? = some b → ¬ (b.sec = a.sec ∧ b.off < a.off + 4 ∧ a.off < b.off + 4) := by
    intro j k a b hlt ha hb
    have hm : a ∈ l.take k := by
      have : (l.take k)[j]? = some a := by rw [List.getElem?_take_of_lt hlt, ha]
      exact List.mem_of_getElem? this
    have := sharedTo_pair h hb a (by simpa using hm)
    unfold shareB at this
    simpa [and_assoc] using this
  rcases Nat.lt_or_gt_of_ne hjk with hlt | hlt
  · intro ⟨h1, h2, h3⟩
    exact key hlt ha hb ⟨h1.symm, h3, h2⟩
  · exact key hlt hb ha
theorem not_cov {l : List Rl} (h : sharedTo [] l = false) {k : Nat} {r : Rl} (hk : l[k]? = some r) {i j : Nat} (h1 : r.sec = (i : Int)) (h2 : r.off ≤ (j : Int)) (h3 : (j : Int) < r.off + 4) : ¬ cov (l.take k) i j ∧ ¬ cov (l.drop (k + 1)) i j := by
  constructor
  · rintro ⟨x, hx, e1, e2, e3⟩
    obtain ⟨q, hq⟩ := List.getElem?_of_mem hx
    rw [List.getElem?_take] at hq
    split at hq
    · exact shared_two h (j := q) (k := k) (by omega) hq hk ⟨by omega, by omega, by omega⟩
    · cases hq
  · rintro ⟨x, hx, e1, e2, e3⟩
    obtain ⟨q, hq⟩ := List.getElem?_of_mem hx
    rw [List.getElem?_drop] at hq
    exact shared_two h (j := k + 1 + q) (k := k) (by omega) hq hk ⟨by omega, by omega, by omega⟩
/-- The bytes that Apply writes for a relocation. -/
theorem fold_in {syms : List Sy} {L : List Sec} {l : List Rl} (hv : ∀ r ∈ l, relOne L syms r = 0) (h : sharedTo [] l = false) {k : Nat} {r : Rl} (hk : l[k]? = some r) {i f t : Nat} {s : Sec} (h1 : r.sec = (i : Int)) (h2 : r.off = (f : Int)) (ht : t < 4) (hs : L[i]? = some s) :
    byt (l.foldl (patchS syms) L) i (f + t) = (bytes4 (relNum syms s r))[t]? := by
  have e : l = l.take k ++ r :: l.drop (k + 1) := by rw [← drop_cons' hk, List.take_append_drop]
  have hn := not_cov h hk (i := i) (j := f + t) h1 (by omega) (by omega)
  have hm : ∀ x ∈ l.take k, relOne L syms x = 0 := fun x hx => hv x (List.mem_of_mem_take hx)
  have hsh : ((l.take k).foldl (patchS syms) L).map secKey = L.map secKey := fold_shape _ hm
  obtain ⟨P, hP⟩ : ∃ P, (l.take k).foldl (patchS syms) L = P := ⟨_, rfl⟩
  rw [hP] at hsh
  obtain ⟨s', hs', hk'⟩ := shape_at hsh hs
  have h0 : relOne P syms r = 0 := by rw [relOne_shape hsh]; exact hv r (List.mem_of_getElem? hk)
  have hsh2 := patch_shape h0
  have e2 : l.foldl (patchS syms) L = (l.drop (k + 1)).foldl (patchS syms) (patchS syms P r) := by
    conv => lhs; rw [e]
    rw [List.foldl_append, List.foldl_cons, hP]
  rw [e2, fold_out _ (fun x hx => by rw [relOne_shape hsh2, relOne_shape hsh]; exact hv x (List.mem_of_mem_drop hx)) hn.2]
  obtain ⟨kk, s2, f2, y, q1, q2, q3, q4, -, -⟩ := relOne_zero h0
  obtain rfl : kk = i := by omega
  obtain rfl : f2 = f := by omega
  rw [hs'] at q2
  cases q2
  unfold patchS
  rw [h1, Int.toNat_natCast, hs']
  simp only [h2, Int.toNat_natCast]
  rw [byt_at (List.getElem?_set_self (List.getElem?_eq_some_iff.1 hs').1)]
  show (put4 s'.data f2 _)[f2 + t]? = _
  rw [put4_in q4 ht, relNum_key hk']

/-- The number of four bytes. -/
def word4 (d : List Nat) (f : Nat) : Nat := (d[f]?.getD 0) + (d[f + 1]?.getD 0) * 256 + (d[f + 2]?.getD 0) * 65536 + (d[f + 3]?.getD 0) * 16777216
theorem word4_of {d : List Nat} {f n : Nat} (hn : n < 4294967296) (h : ∀ t, t < 4 → d[f + t]? = (bytes4 n)[t]?) : word4 d f = n := by
  have h0 := h 0 (by omega)
  have h1 := h 1 (by omega)
  have h2 := h 2 (by omega)
  have h3 := h 3 (by omega)
  simp only [bytes4, Nat.add_zero, List.getElem?_cons_zero, List.getElem?_cons_succ] at h0 h1 h2 h3
  unfold word4
  rw [h0, h1, h2, h3]
  simp only [Option.getD_some]
  omega
theorem relVal_lt (r : Rl) (p t : Nat) : (relVal r p t).1 < 4294967296 := by
  rw [relVal]
  split
  · exact w32_lt _
  · split
    · exact w32_lt _
    · show (0 : Nat) < _; omega
theorem relNum_lt (syms : List Sy) (s : Sec) (r : Rl) : relNum syms s r < 4294967296 := relVal_lt ..
theorem find_moved (m : Nat) (nm : List UInt8) : ∀ l : List Sy, findSy (l.map (movY m)) nm = (findSy l nm).map (movY m)
  | [] => rfl
  | s :: l => by
    have ih := find_moved m nm l
    unfold findSy at ih ⊢
    rw [List.map_cons, List.find?_cons, List.find?_cons]
    have e : decide ((movY m s).key = nm) = decide (s.key = nm) := rfl
    rw [e]
    by_cases h : s.key = nm
    · simp [h]
    · simp only [h, decide_false]
      exact ih
/-- How far the number of a relocation moves. -/
def more7 (r : Rl) (m : Nat) : Nat := if r.kind = 2 then 0 else m
theorem num_moved {syms : List Sy} {s : Sec} {r : Rl} {m : Nat} {t : Sy} (hm : m < 4294967296) (hf : findSy syms r.sym.data.toList = some t) (hk : r.kind = 1 ∨ r.kind = 2) :
    w32 ((relNum (syms.map (movY m)) (movS m s) r : Int) - (relNum syms s r : Int)) = more7 r m := by
  unfold relNum more7
  rw [find_moved, hf]
  simp only [Option.map_some, Option.getD_some, movY, movS, relVal]
  rcases hk with hk | hk
  · rw [hk]
    simp only [if_true, if_neg (show ¬ (1 : Int) = 2 by omega)]
    unfold w32
    omega
  · rw [hk]
    simp only [if_true, if_neg (show ¬ (2 : Int) = 1 by omega)]
    unfold w32
    omega

/-- The bytes of P are those of X, the others those of Y. -/
structure MixP (X Y Z : List Sec) (P : Nat → Nat → Prop) : Prop where
  shape : Z.map secKey = Y.map secKey
  yes : ∀ i j, P i j → byt Z i j = byt X i j
  no : ∀ i j, ¬ P i j → byt Z i j = byt Y i j
theorem MixP.start {X Y : List Sec} {P : Nat → Nat → Prop} (hP : ∀ i j, ¬ P i j) : MixP X Y Y P := ⟨rfl, fun i j h => absurd h (hP i j), fun _ _ _ => rfl⟩
theorem MixP.congr {X Y Z : List Sec} {P Q : Nat → Nat → Prop} (h : MixP X Y Z P) (he : ∀ i j, Q i j ↔ P i j) : MixP X Y Z Q := ⟨h.shape, fun i j hq => h.yes i j ((he i j).1 hq), fun i j hq => h.no i j fun hp => hq ((he i j).2 hp)⟩
theorem MixP.step {X Y Z : List Sec} {P Q : Nat → Nat → Prop} (h : MixP X Y Z P) {i j b : Nat} {z x : Sec} (hz : Z[i]? = some z) (hx : X[i]? = some x) (hj : j < z.data.length) (hb : x.data[j]? = some b) (he : ∀ i' j', Q i' j' ↔ P i' j' ∨ (i' = i ∧ j' = j)) :
    MixP X Y (Z.set i { z with data := z.data.set j b }) Q := by
  have hlt := (List.getElem?_eq_some_iff.1 hz).1
  have hself : byt (Z.set i { z with data := z.data.set j b }) i j = byt X i j := by
    rw [byt_at (List.getElem?_set_self hlt), byt_at hx, hb, List.getElem?_set_self hj]
  have hoth : ∀ i' j', ¬ (i' = i ∧ j' = j) → byt (Z.set i { z with data := z.data.set j b }) i' j' = byt Z i' j' := by
    intro i' j' hn
    by_cases e : i' = i
    · subst e
      rw [byt_at (List.getElem?_set_self hlt), byt_at hz]
      show (z.data.set j b)[j']? = _
      rw [List.getElem?_set_ne (by intro e'; exact hn ⟨rfl, e'.symm⟩)]
    · unfold byt
      rw [List.getElem?_set_ne (fun e' => e e'.symm)]
  refine ⟨?_, fun i' j' hq => ?_, fun i' j' hq => ?_⟩
  · rw [← h.shape]
    refine set_same secKey hz ?_
    simp [secKey]
  · by_cases e : i' = i ∧ j' = j
    · obtain ⟨rfl, rfl⟩ := e
      exact hself
    · rw [hoth i' j' e]
      rcases (he i' j').1 hq with hp | hp
      · exact h.yes i' j' hp
      · exact absurd hp e
  · have hn : ¬ P i' j' ∧ ¬ (i' = i ∧ j' = j) := ⟨fun hp => hq ((he i' j').2 (.inl hp)), fun hp => hq ((he i' j').2 (.inr hp))⟩
    rw [hoth i' j' hn.2]
    exact h.no i' j' hn.1
/-- After all relocations the bytes are those of X. -/
theorem MixP.done {X Y Z : List Sec} {P : Nat → Nat → Prop} (h : MixP X Y Z P) (hn : ∀ i j, ¬ P i j → byt Y i j = byt X i j) {i : Nat} {z x : Sec} (hz : Z[i]? = some z) (hx : X[i]? = some x) : z.data = x.data := by
  apply List.ext_getElem?
  intro j
  have e : byt Z i j = byt X i j := by
    by_cases hp : P i j
    · exact h.yes i j hp
    · rw [h.no i j hp, hn i j hp]
  rwa [byt_at hz, byt_at hx] at e

/-- What RelocRebase's loop wants of an object and its image. -/
structure Reb (o : Ob) (m : Nat) (X Y : List Sec) : Prop where
  keyX : X.map secKey = o.secs.map secKey
  keyY : Y.map secKey = (o.secs.map (movS m)).map secKey
  val : ∀ r ∈ o.rels, relOne o.secs o.syms r = 0
  rest : ∀ i j, ¬ cov o.rels i j → byt Y i j = byt X i j
  free : ∀ (k : Nat) r, o.rels[k]? = some r → ∀ (i f t : Nat), r.sec = (i : Int) → r.off = (f : Int) → t < 4 → ¬ cov (o.rels.take k) i (f + t)
  num : ∀ (k : Nat) r, o.rels[k]? = some r → ∀ (i f : Nat) x y, r.sec = (i : Int) → r.off = (f : Int) → X[i]? = some x → Y[i]? = some y → w32 ((word4 y.data f : Int) - (word4 x.data f : Int)) = more7 r m
theorem byt_moved (m : Nat) (l : List Sec) (i j : Nat) : byt (l.map (movS m)) i j = byt l i j := by
  unfold byt
  rw [List.getElem?_map]
  cases l[i]? <;> rfl
theorem reb_of {o : Ob} {m : Nat} (h : obCheck o = 0) (h2 : obCheck (moveOb o m) = 0) (hm : m < 4294967296) : Reb o m (applyOb o).secs (applyOb (moveOb o m)).secs := by
  obtain ⟨-, -, -, h4, h5⟩ := obCheck_zero h
  obtain ⟨-, -, -, g4, -⟩ := obCheck_zero h2
  have hv := relsErr_each h4
  have gv : ∀ r ∈ o.rels, relOne (o.secs.map (movS m)) (o.syms.map (movY m)) r = 0 := relsErr_each g4
  have kx : (applyOb o).secs.map secKey = o.secs.map secKey := fold_shape _ hv
  have ky : (applyOb (moveOb o m)).secs.map secKey = (o.secs.map (movS m)).map secKey := fold_shape _ gv
  refine ⟨kx, ky, hv, fun i j hn => ?_, fun k r hk i f t e1 e2 ht => (not_cov h5 hk (i := i) (j := f + t) e1 (by omega) (by omega)).1, fun k r hk i f x y e1 e2 hx hy => ?_⟩
  · have ex : byt (applyOb o).secs i j = byt o.secs i j := fold_out _ hv hn
    have ey : byt (applyOb (moveOb o m)).secs i j = byt (o.secs.map (movS m)) i j := fold_out _ gv hn
    rw [ex, ey, byt_moved]
  · obtain ⟨kk, s, f2, t, q1, q2, q3, q4, q5, q6⟩ := relOne_zero (hv r (List.mem_of_getElem? hk))
    obtain rfl : kk = i := by omega
    obtain rfl : f2 = f := by omega
    have q2' : (o.secs.map (movS m))[kk]? = some (movS m s) := by rw [List.getElem?_map, q2]; rfl
    have wx : word4 x.data f2 = relNum o.syms s r := word4_of (relNum_lt ..) fun t ht => by
      have := fold_in hv h5 hk q1 q3 ht q2
      have e : byt (o.rels.foldl (patchS o.syms) o.secs) kk (f2 + t) = x.data[f2 + t]? := byt_at hx
      rw [← e]
      exact this
    have wy : word4 y.data f2 = relNum (o.syms.map (movY m)) (movS m s) r := word4_of (relNum_lt ..) fun t ht => by
      have := fold_in gv h5 hk q1 q3 ht q2'
      have e : byt (o.rels.foldl (patchS (o.syms.map (movY m))) (o.secs.map (movS m))) kk (f2 + t) = y.data[f2 + t]? := byt_at hy
      rw [← e]
      exact this
    rw [wx, wy]
    exact num_moved hm q5 q6
end Go.Proofs.Ytnlofhbimfcejaa
