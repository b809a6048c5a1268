/- Relocations and objects as plain law; data that lie in their cells alone; sections in a row of the call's own. No program in sight. -/
import Derived.Test.YtekilcnkinmakaaDoorSymL
import Derived.Test.YtekilcnkinmakaaDoorBase
namespace Go.Deco
open Go Go.RowKit
set_option linter.unusedVariables false
set_option linter.unusedSimpArgs false

/-- A relocation. -/
structure Rl where
  sec : Int
  off : Int
  kind : Int
  sym : ByteArray
  add : Int
/-- An object. -/
structure Ob where
  entry : Nat
  secs : List Sec
  syms : List Sy
  rels : List Rl
def w32 (n : Int) : Nat := (n % 4294967296).toNat
theorem w32_lt (n : Int) : w32 n < 4294967296 := by unfold w32; omega
theorem w32_cast (n : Int) : ((w32 n : Nat) : Int) = n % 4294967296 := by unfold w32; omega
theorem wrap_w32 (n : Int) : IntKind.u32.wrap n = ((w32 n : Nat) : Int) := by
  rw [IntKind.wrap_u32, w32_cast]

/-- The error of a relocation. -/
def relOne (secs : List Sec) (syms : List Sy) (r : Rl) : Nat :=
  if (r.kind ≠ 1 ∧ r.kind ≠ 2) ∨ r.sec < 0 then 2 else
  match secs[r.sec.toNat]? with
  | none => 2
  | some s => if r.off < 0 ∨ (s.data.length : Int) - 4 < r.off then 7 else if (findSy syms r.sym.data.toList).isSome then 0 else 17
def shareB (a b : Rl) : Bool := decide (a.sec = b.sec) && (decide (a.off < b.off + 4) && decide (b.off < a.off + 4))
def sharedTo (pre : List Rl) : List Rl → Bool
  | [] => false
  | r :: l => pre.any (fun b => shareB r b) || sharedTo (pre ++ [r]) l
def relsErr (secs : List Sec) (syms : List Sy) : List Rl → Nat
  | [] => 0
  | r :: l => if relOne secs syms r = 0 then relsErr secs syms l else relOne secs syms r
def obCheck (o : Ob) : Nat :=
  if secCheck o.secs ≠ 0 then secCheck o.secs else if symCheck o.syms ≠ 0 then symCheck o.syms else if 256 < o.rels.length then 6 else
  if relsErr o.secs o.syms o.rels ≠ 0 then relsErr o.secs o.syms o.rels else if sharedTo [] o.rels then 10 else 0

theorem obCheck_secs {o : Ob} {e : Nat} (h : secCheck o.secs = e) (h0 : e ≠ 0) : obCheck o = e := by
  unfold obCheck
  rw [h, if_pos h0]
theorem obCheck_syms {o : Ob} {e : Nat} (h : secCheck o.secs = 0) (h1 : symCheck o.syms = e) (h0 : e ≠ 0) : obCheck o = e := by
  unfold obCheck
  rw [h, h1, if_neg (by simp), if_pos h0]
theorem obCheck_many {o : Ob} (h : secCheck o.secs = 0) (h1 : symCheck o.syms = 0) (h2 : 256 < o.rels.length) : obCheck o = 6 := by
  unfold obCheck
  rw [h, h1, if_neg (by simp), if_neg (by simp), if_pos h2]
theorem obCheck_rels {o : Ob} {e : Nat} (h : secCheck o.secs = 0) (h1 : symCheck o.syms = 0) (h2 : ¬ 256 < o.rels.length) (h3 : relsErr o.secs o.syms o.rels = e) (h0 : e ≠ 0) : obCheck o = e := by
  unfold obCheck
  rw [h, h1, h3, if_neg (by simp), if_neg (by simp), if_neg h2, if_pos h0]
theorem obCheck_last {o : Ob} {b : Bool} (h : secCheck o.secs = 0) (h1 : symCheck o.syms = 0) (h2 : ¬ 256 < o.rels.length) (h3 : relsErr o.secs o.syms o.rels = 0) (h4 : sharedTo [] o.rels = b) : obCheck o = if b then 10 else 0 := by
  unfold obCheck
  rw [h, h1, h3, h4, if_neg (by simp), if_neg (by simp), if_neg h2, if_neg (by simp)]
theorem obCheck_zero {o : Ob} (h : obCheck o = 0) : secCheck o.secs = 0 ∧ symCheck o.syms = 0 ∧ o.rels.length ≤ 256 ∧ relsErr o.secs o.syms o.rels = 0 ∧ sharedTo [] o.rels = false := by
  unfold obCheck at h
  split at h
  · exact absurd h (by assumption)
  · split at h
    · exact absurd h (by assumption)
    · split at h
      · omega
      · split at h
        · exact absurd h (by assumption)
        · split at h
          · omega
          · simp_all
theorem relsErr_step {secs : List Sec} {syms : List Sy} {l : List Rl} {k : Nat} {r : Rl} (hk : l[k]? = some r) (h : relOne secs syms r = 0) (hF : relsErr secs syms (l.drop k) = relsErr secs syms l) : relsErr secs syms (l.drop (k + 1)) = relsErr secs syms l := by
  rw [← hF, drop_cons' hk, relsErr, if_pos h]
theorem relsErr_hit {secs : List Sec} {syms : List Sy} {l : List Rl} {k e : Nat} {r : Rl} (hk : l[k]? = some r) (h : relOne secs syms r = e) (h0 : e ≠ 0) (hF : relsErr secs syms (l.drop k) = relsErr secs syms l) : relsErr secs syms l = e := by
  rw [← hF, drop_cons' hk, relsErr, h, if_neg h0]
theorem relsErr_end {secs : List Sec} {syms : List Sy} {l : List Rl} (hF : relsErr secs syms (l.drop l.length) = relsErr secs syms l) : relsErr secs syms l = 0 := by
  rw [← hF, List.drop_length]
  rfl
theorem relsErr_each {secs : List Sec} {syms : List Sy} : ∀ {l : List Rl}, relsErr secs syms l = 0 → ∀ r ∈ l, relOne secs syms r = 0
  | [], _, _, h => by simp at h
  | x :: l, h, r, hr => by
    rw [relsErr] at h
    split at h
    · rename_i hx
      rcases List.mem_cons.1 hr with rfl | hr
      · exact hx
      · exact relsErr_each h r hr
    · contradiction
theorem relsErr_all {secs : List Sec} {syms : List Sy} : ∀ {l : List Rl}, (∀ r ∈ l, relOne secs syms r = 0) → relsErr secs syms l = 0
  | [], _ => rfl
  | x :: l, h => by
    rw [relsErr, if_pos (h x (by simp))]
    exact relsErr_all fun r hr => h r (by simp [hr])
theorem relOne_zero {secs : List Sec} {syms : List Sy} {r : Rl} (h : relOne secs syms r = 0) :
    ∃ (k : Nat) (s : Sec) (f : Nat) (t : Sy), r.sec = k ∧ secs[k]? = some s ∧ r.off = f ∧ f + 4 ≤ s.data.length ∧ findSy syms r.sym.data.toList = some t ∧ (r.kind = 1 ∨ r.kind = 2) := by
  unfold relOne at h
  split at h
  · omega
  · rename_i h1
    split at h
    · omega
    · rename_i s hs
      split at h
      · omega
      · rename_i h2
        split at h
        · rename_i h3
          obtain ⟨t, ht⟩ := Option.isSome_iff_exists.1 h3
          exact ⟨r.sec.toNat, s, r.off.toNat, t, by omega, hs, by omega, by omega, ht, by omega⟩
        · omega
theorem shared_step {l : List Rl} {k : Nat} {s : Rl} (hk : l[k]? = some s) (he : (l.take k).any (fun b => shareB s b) = false) (hF : sharedTo (l.take k) (l.drop k) = sharedTo [] l) : sharedTo (l.take (k + 1)) (l.drop (k + 1)) = sharedTo [] l := by
  rw [drop_cons' hk, sharedTo, he, Bool.false_or, ← take_snoc' hk] at hF
  exact hF
theorem shared_hit {l : List Rl} {k : Nat} {s : Rl} (hk : l[k]? = some s) (he : (l.take k).any (fun b => shareB s b) = true) (hF : sharedTo (l.take k) (l.drop k) = sharedTo [] l) : sharedTo [] l = true := by
  rw [drop_cons' hk, sharedTo, he, Bool.true_or] at hF
  exact hF.symm
theorem shared_end {l : List Rl} (hF : sharedTo (l.take l.length) (l.drop l.length) = sharedTo [] l) : sharedTo [] l = false := by
  rw [List.drop_length, sharedTo] at hF
  exact hF.symm
theorem any_take_step {E : Type} {p : E → Bool} {l : List E} {k : Nat} {s : E} (hk : l[k]? = some s) (hp : p s = false) (h : (l.take k).any p = false) : (l.take (k + 1)).any p = false := by
  rw [take_snoc' hk, List.any_append, h]
  simp [hp]
theorem any_take_hit {E : Type} {p : E → Bool} {l : List E} {k j : Nat} {s : E} (hk : l[k]? = some s) (hp : p s = true) (hj : k < j) : (l.take j).any p = true := by
  rw [List.any_eq_true]
  refine ⟨s, ?_, hp⟩
  have : (l.take j)[k]? = some s := by rw [List.getElem?_take_of_lt hj, hk]
  exact List.mem_of_getElem? this

/-- The number that a relocation writes, and the error. -/
def relVal (r : Rl) (place target : Nat) : Nat × Nat :=
  if r.kind = 1 then (w32 (target + r.add), 0) else if r.kind = 2 then (w32 (target + r.add - place - 4), 0) else (0, 2)
def bytes4 (n : Nat) : List Nat := [n % 256, n / 256 % 256, n / 65536 % 256, n / 16777216 % 256]
def put4 (d : List Nat) (f n : Nat) : List Nat := d.take f ++ bytes4 n ++ d.drop (f + 4)
theorem put4_len {d : List Nat} {f n : Nat} (h : f + 4 ≤ d.length) : (put4 d f n).length = d.length := by
  simp [put4, bytes4]
  omega
def relNum (syms : List Sy) (s : Sec) (r : Rl) : Nat := (relVal r (w32 (s.addr + r.off)) ((findSy syms r.sym.data.toList).getD Sy.zero).addr).1
/-- One relocation applied. -/
def patchS (syms : List Sy) (l : List Sec) (r : Rl) : List Sec :=
  match l[r.sec.toNat]? with
  | none => l
  | some s => l.set r.sec.toNat { s with data := put4 s.data r.off.toNat (relNum syms s r) }
def applyOb (o : Ob) : Ob := ⟨o.entry, o.rels.foldl (patchS o.syms) o.secs, o.syms, []⟩
def Ob.zero : Ob := ⟨0, [], [], []⟩
/-- Apply: the object and the error. -/
def applyR (o : Ob) : Ob × Nat := if obCheck o = 0 then (applyOb o, 0) else (Ob.zero, obCheck o)
def moveOb (o : Ob) (by_ : Nat) : Ob := ⟨w32 (o.entry + by_), o.secs.map (fun s => { s with addr := w32 (s.addr + by_) }), o.syms.map (fun s => { s with addr := w32 (s.addr + by_) }), o.rels⟩
/-- Rebase: the object and the error. -/
def rebaseR (o : Ob) (by_ : Nat) : Ob × Nat := if obCheck o = 0 then (if obCheck (moveOb o by_) = 0 then (moveOb o by_, 0) else (Ob.zero, obCheck (moveOb o by_))) else (Ob.zero, obCheck o)
/-- The places of the relocations whose section there is. -/
def placesOf (o : Ob) : List Nat := o.rels.filterMap fun r => if r.sec < 0 then none else (o.secs[r.sec.toNat]?).map fun s => w32 (s.addr + r.off)

/-- How a relocation lies in memory: five cells. -/
def relCells (r : Rl) : List Value := [.int .i64 r.sec, .int .i64 r.off, .int .i64 r.kind, .string r.sym, .int .i32 r.add]
def RlOk (r : Rl) : Prop := (-9223372036854775808 ≤ r.sec ∧ r.sec ≤ 9223372036854775807) ∧ (-9223372036854775808 ≤ r.off ∧ r.off ≤ 9223372036854775807) ∧ (-9223372036854775808 ≤ r.kind ∧ r.kind ≤ 9223372036854775807) ∧ r.sym.size ≤ maxLen ∧ (-2147483648 ≤ r.add ∧ r.add ≤ 2147483647)
def relR : Rep Rl where
  size := 5
  pos := by omega
  rel _ _ cs r := cs = relCells r ∧ RlOk r
  keep _ h := h
  mono _ h := h
  len h := by rw [h.1]; rfl
  one h u hu := by
    rw [h.1] at hu
    simp [relCells] at hu
    rcases hu with rfl | rfl | rfl | rfl | rfl <;> rfl
theorem Sl.rel_at {w : World} {S : Nat → Prop} {A : Option Addr} {n c k : Nat} {l : List Rl} {r : Rl} (h : Sl relR w S (.slice A n c) l) (hk : l[k]? = some r) :
    ∃ b off, A = some ⟨b, off, none⟩ ∧ RlOk r ∧ w.cell? ⟨b, off + k * 5, none⟩ = some (.int .i64 r.sec) ∧ w.cell? ⟨b, off + k * 5 + 1, none⟩ = some (.int .i64 r.off) ∧ w.cell? ⟨b, off + k * 5 + 2, none⟩ = some (.int .i64 r.kind) ∧
      w.cell? ⟨b, off + k * 5 + 3, none⟩ = some (.string r.sym) ∧ w.cell? ⟨b, off + k * 5 + 4, none⟩ = some (.int .i32 r.add) := by
  obtain ⟨b, off, cs, hA, ⟨hcs, h1⟩, hc⟩ := h.get hk
  subst hcs
  exact ⟨b, off, hA, h1, by simpa [relR] using hc 0 _ rfl, hc 1 _ rfl, hc 2 _ rfl, hc 3 _ rfl, hc 4 _ rfl⟩
end Go.Deco

namespace Go.Deco
open Go Go.RowKit
set_option linter.unusedVariables false
set_option linter.unusedSimpArgs false

/-- The datum's cells say all. -/
structure Pure {E : Type} (R : Rep E) where
  cells : E → List Value
  ok : E → Prop
  iff : ∀ (w : World) (S : Nat → Prop) (cs : List Value) (e : E), R.rel w S cs e ↔ cs = cells e ∧ ok e
  len : ∀ e, (cells e).length = R.size

section
variable {E : Type} {R : Rep E} (p : Pure R) {w w' : World} {S T : Nat → Prop} {l : List E}
theorem Pure.chunks : ∀ {l : List E} {xs : List Value}, Chunks R w S xs l ↔ xs = l.flatMap p.cells ∧ ∀ e ∈ l, p.ok e
  | [], xs => by simp [Chunks]
  | y :: l, xs => by
    constructor
    · rintro ⟨cs, rest, rfl, hr, h⟩
      obtain ⟨rfl, hy⟩ := (p.iff _ _ _ _).1 hr
      obtain ⟨rfl, h2⟩ := (Pure.chunks).1 h
      refine ⟨by rw [List.flatMap_cons], fun x hx => ?_⟩
      rcases List.mem_cons.1 hx with rfl | hx
      · exact hy
      · exact h2 x hx
    · rintro ⟨rfl, h⟩
      exact ⟨_, _, by rw [List.flatMap_cons], (p.iff _ _ _ _).2 ⟨rfl, h y (by simp)⟩, Pure.chunks.2 ⟨rfl, fun x hx => h x (by simp [hx])⟩⟩
theorem Pure.at : ∀ {l : List E} {k i : Nat} {x : E} {u : Value}, l[k]? = some x → (p.cells x)[i]? = some u → (l.flatMap p.cells)[k * R.size + i]? = some u
  | [], _, _, _, _, h, _ => by simp at h
  | y :: l, 0, i, x, u, h, hu => by
    simp at h
    subst h
    rw [List.flatMap_cons, Nat.zero_mul, Nat.zero_add, List.getElem?_append_left (List.getElem?_eq_some_iff.1 hu).1]
    exact hu
  | y :: l, k + 1, i, x, u, h, hu => by
    have := Pure.at (l := l) (k := k) (by simpa using h) hu
    rw [List.flatMap_cons, List.getElem?_append_right (by rw [p.len, Nat.succ_mul]; omega), p.len, show (k + 1) * R.size + i - R.size = k * R.size + i by rw [Nat.succ_mul]; omega]
    exact this
theorem Pure.put : ∀ {l : List E} {k i : Nat} {x y : E} {u : Value}, l[k]? = some x → i < R.size → (p.cells x).set i u = p.cells y → (l.flatMap p.cells).set (k * R.size + i) u = (l.set k y).flatMap p.cells
  | [], _, _, _, _, _, h, _, _ => by simp at h
  | z :: l, 0, i, x, y, u, h, hi, hu => by
    simp at h
    subst h
    rw [List.flatMap_cons, Nat.zero_mul, Nat.zero_add, List.set_append_left _ _ (by rw [p.len]; exact hi), hu, List.set_cons_zero, List.flatMap_cons]
  | z :: l, k + 1, i, x, y, u, h, hi, hu => by
    have := Pure.put (l := l) (k := k) (by simpa using h) hi hu
    rw [List.flatMap_cons, List.set_append_right _ _ (by rw [p.len, Nat.succ_mul]; omega), p.len, show (k + 1) * R.size + i - R.size = k * R.size + i by rw [Nat.succ_mul]; omega, this, List.set_cons_succ, List.flatMap_cons]

variable {base : Nat} {t : TypeId} {g n c k i : Nat} {x y : E} {u v : Value}
theorem Pure.size (p : Pure R) (l : List E) : (l.flatMap p.cells).length = l.length * R.size := by
  induction l with
  | nil => simp
  | cons y l ih => rw [List.flatMap_cons, List.length_append, p.len, ih, List.length_cons, Nat.succ_mul, Nat.add_comm]
theorem Pure.anyT (p : Pure R) (h : OwnS R w base t T v l) (T' : Nat → Prop) : OwnS R w base t T' v l := by
  obtain ⟨xs, ho, hc⟩ := h
  exact ⟨xs, ho, p.chunks.2 (p.chunks.1 hc)⟩
theorem Pure.own_ok (p : Pure R) (h : OwnS R w base t T v l) : ∀ e ∈ l, p.ok e := by
  obtain ⟨xs, ho, hc⟩ := h
  exact (p.chunks.1 hc).2
theorem Pure.cell (p : Pure R) (h : OwnS R w base t T (.slice (some ⟨g, 0, none⟩) n c) l) (hk : l[k]? = some x) (hu : (p.cells x)[i]? = some u) :
    w.cell? ⟨g, k * R.size + i, none⟩ = some u ∧ w.frozen? ⟨g, k * R.size + i, none⟩ = false := by
  have hn := h.len
  obtain ⟨xs, ho, hc⟩ := h
  obtain ⟨rfl, _⟩ := p.chunks.1 hc
  rw [← hn] at ho
  have hlt := (List.getElem?_eq_some_iff.1 hk).1
  have hi : i < R.size := by rw [← p.len x]; exact (List.getElem?_eq_some_iff.1 hu).1
  refine ⟨?_, ho.frozenAt _⟩
  rw [ho.cellAt (k * R.size + i) ?_, p.at hk hu]
  rw [hn]
  calc k * R.size + i < k * R.size + R.size := by omega
    _ = (k + 1) * R.size := by rw [Nat.succ_mul]
    _ ≤ l.length * R.size := Nat.mul_le_mul_right _ hlt
theorem Pure.set (p : Pure R) (h : OwnS R w base t T (.slice (some ⟨g, 0, none⟩) n c) l) (hk : l[k]? = some x) (hi : i < R.size) (hu : (p.cells x).set i u = p.cells y) (hy : p.ok y) :
    OwnS R (w.setCell ⟨g, k * R.size + i, none⟩ u) base t T (.slice (some ⟨g, 0, none⟩) n c) (l.set k y) := by
  have hn := h.len
  obtain ⟨xs, ho, hc⟩ := h
  obtain ⟨rfl, hb⟩ := p.chunks.1 hc
  refine ⟨(l.set k y).flatMap p.cells, ?_, p.chunks.2 ⟨rfl, fun e he => ?_⟩⟩
  · rw [← hn] at ho
    have := (ho.stored (k * R.size + i) u).1
    rw [List.length_set, ← p.put hk hi hu, ← hn]
    exact this
  · rcases List.mem_or_eq_of_mem_set he with he | rfl
    · exact hb e he
    · exact hy
theorem Pure.sl (p : Pure R) (h : OwnS R w base t T v l) (hS : ∀ k, base ≤ k → S k) : Sl R w S v l := by
  have hb := h.block
  exact OwnS.slT (p.anyT h (fun _ => False)) (fun _ h => h.elim) (fun k hk => hS k (hb k hk).1)
theorem Pure.slS {A : Option Addr} (p : Pure R) (h : Sl R w S (.slice A n c) l) (hS : ∀ b off, A = some ⟨b, off, none⟩ → T b) : Sl R w T (.slice A n c) l := by
  obtain ⟨A', c', hv, h1, h2, h3, h4⟩ := h
  simp only [Value.slice.injEq] at hv
  obtain ⟨rfl, rfl, rfl⟩ := hv
  refine ⟨A, c, rfl, h1, h2, h3, fun hl => ?_⟩
  obtain ⟨b, off, hA, _, hc⟩ := h4 hl
  refine ⟨b, off, hA, hS b off hA, fun k e he => ?_⟩
  obtain ⟨cs, hr, hcs⟩ := hc k e he
  exact ⟨cs, (p.iff _ _ _ _).2 ((p.iff _ _ _ _).1 hr), hcs⟩
end
end Go.Deco

namespace Go.Deco
open Go Go.RowKit
set_option linter.unusedVariables false
set_option linter.unusedSimpArgs false

def symP : Pure symR where
  cells s := [.string s.name, .int .u32 s.addr, .int .i64 s.kind]
  ok s := s.addr < 4294967296 ∧ s.name.size ≤ maxLen ∧ -9223372036854775808 ≤ s.kind ∧ s.kind ≤ 9223372036854775807
  iff _ _ _ _ := Iff.rfl
  len _ := rfl
def relP : Pure relR where
  cells := relCells
  ok := RlOk
  iff _ _ _ _ := Iff.rfl
  len _ := rfl

/-- A section's cells, its bytes left where they are. -/
structure Hd where
  name : ByteArray
  addr : Nat
  A : Option Addr
  n : Nat
  c : Nat
  wr : Bool
  ex : Bool
def Hd.dv (h : Hd) : Value := .slice h.A h.n h.c
def hdrCells (h : Hd) : List Value := [.string h.name, .int .u32 h.addr, h.dv, .bool h.wr, .bool h.ex]
def hdrR : Rep Hd where
  size := 5
  pos := by omega
  rel _ _ cs h := cs = hdrCells h ∧ h.addr < 4294967296 ∧ h.name.size ≤ 9223372036854775807
  keep _ h := h
  mono _ h := h
  len h := by rw [h.1]; rfl
  one h u hu := by
    rw [h.1] at hu
    simp [hdrCells, Hd.dv] at hu
    rcases hu with rfl | rfl | rfl | rfl | rfl <;> rfl
def hdrP : Pure hdrR where
  cells := hdrCells
  ok h := h.addr < 4294967296 ∧ h.name.size ≤ 9223372036854775807
  iff _ _ _ _ := Iff.rfl
  len _ := rfl
/-- The cells are those of the section, but for its bytes. -/
def HdOf (h : Hd) (s : Sec) : Prop := h.name = s.name ∧ h.addr = s.addr ∧ h.wr = s.wr ∧ h.ex = s.ex ∧ h.n = s.data.length
theorem Sl.hdr_at {w : World} {S : Nat → Prop} {A : Option Addr} {n c k : Nat} {H : List Hd} {h : Hd} (hs : Sl hdrR w S (.slice A n c) H) (hk : H[k]? = some h) :
    ∃ b off, A = some ⟨b, off, none⟩ ∧ h.addr < 4294967296 ∧ h.name.size ≤ 9223372036854775807 ∧ w.cell? ⟨b, off + k * 5, none⟩ = some (.string h.name) ∧ w.cell? ⟨b, off + k * 5 + 1, none⟩ = some (.int .u32 h.addr) ∧
      w.cell? ⟨b, off + k * 5 + 2, none⟩ = some (.slice h.A h.n h.c) ∧ w.cell? ⟨b, off + k * 5 + 3, none⟩ = some (.bool h.wr) ∧ w.cell? ⟨b, off + k * 5 + 4, none⟩ = some (.bool h.ex) := by
  obtain ⟨b, off, cs, hA, ⟨hcs, h1, h2⟩, hc⟩ := hs.get hk
  subst hcs
  exact ⟨b, off, hA, h1, h2, by simpa [hdrR] using hc 0 _ rfl, by simpa [hdrR, Nat.add_assoc] using hc 1 _ rfl, by simpa [hdrR, Nat.add_assoc, Hd.dv] using hc 2 _ rfl, by simpa [hdrR, Nat.add_assoc] using hc 3 _ rfl, by simpa [hdrR, Nat.add_assoc] using hc 4 _ rfl⟩

/-- Sections as cells and bytes apart. -/
theorem heads {w : World} {S : Nat → Prop} {A : Option Addr} {n c : Nat} {l : List Sec} (hl : Sl secR w S (.slice A n c) l) :
    ∃ H, Sl hdrR w S (.slice A n c) H ∧ H.length = l.length ∧ ∀ (k : Nat) h s, H[k]? = some h → l[k]? = some s → HdOf h s ∧ Sl u8R w S h.dv s.data := by
  have key : ∀ k : Fin l.length, ∃ h : Hd, HdOf h l[k] ∧ Sl u8R w S h.dv l[k].data ∧ h.addr < 4294967296 ∧ h.name.size ≤ 9223372036854775807 ∧ ∀ b off, A = some ⟨b, off, none⟩ → ∀ j u, (hdrCells h)[j]? = some u → w.cell? ⟨b, off + (k * 5 + j), none⟩ = some u := by
    intro k
    obtain ⟨b, off, dA, dc, hA, hd, _, h1, h2, c0, c1, c2, c3, c4⟩ := hl.sec_at (List.getElem?_eq_getElem k.2)
    refine ⟨⟨l[k].name, l[k].addr, dA, l[k].data.length, dc, l[k].wr, l[k].ex⟩, ⟨rfl, rfl, rfl, rfl, rfl⟩, hd, h1, h2, fun b' off' hA' j u hu => ?_⟩
    rw [hA] at hA'
    injection hA' with hA'
    injection hA' with e1 e2 _
    subst e1
    subst e2
    match j, hu with
    | 0, hu => simp [hdrCells] at hu; subst hu; exact c0
    | 1, hu => simp [hdrCells] at hu; subst hu; exact c1
    | 2, hu => simp [hdrCells, Hd.dv] at hu; subst hu; exact c2
    | 3, hu => simp [hdrCells] at hu; subst hu; exact c3
    | 4, hu => simp [hdrCells] at hu; subst hu; exact c4
    | j + 5, hu => simp [hdrCells] at hu
  refine ⟨List.ofFn fun k => (key k).choose, ?_, by simp, fun k h s hk hs => ?_⟩
  · obtain ⟨A', c', hv, h1, h2, h3, h4⟩ := hl
    simp only [Value.slice.injEq] at hv
    obtain ⟨rfl, rfl, rfl⟩ := hv
    refine ⟨A, c, by simp, by simpa using h1, h2, h3, fun hne => ?_⟩
    obtain ⟨b, off, hA, hS, _⟩ := h4 (by rintro rfl; simp at hne)
    refine ⟨b, off, hA, hS, fun k e he => ?_⟩
    rw [List.getElem?_ofFn] at he
    split at he
    · rename_i hk
      injection he with he
      have hc := (key ⟨k, hk⟩).choose_spec
      rw [he] at hc
      exact ⟨hdrCells e, ⟨rfl, hc.2.2.1, hc.2.2.2.1⟩, hc.2.2.2.2 b off hA⟩
    · cases he
  · rw [List.getElem?_ofFn] at hk
    split at hk
    · rename_i hlt
      injection hk with hk
      have hc := (key ⟨k, hlt⟩).choose_spec
      rw [hk] at hc
      have e : l[k] = s := by
        rw [List.getElem?_eq_getElem hlt] at hs
        injection hs
      have e2 : l[(⟨k, hlt⟩ : Fin l.length)] = s := e
      rw [e2] at hc
      exact ⟨hc.1, hc.2.1⟩
    · cases hk
/-- .. and back. -/
theorem secs_of {w : World} {S S' : Nat → Prop} {A : Option Addr} {n c : Nat} {H : List Hd} {l : List Sec} (hh : Sl hdrR w S' (.slice A n c) H) (hlen : H.length = l.length) (hS : ∀ b off, A = some ⟨b, off, none⟩ → S b)
    (he : ∀ (k : Nat) h s, H[k]? = some h → l[k]? = some s → HdOf h s ∧ Sl u8R w S h.dv s.data) : Sl secR w S (.slice A n c) l := by
  obtain ⟨A', c', hv, h1, h2, h3, h4⟩ := hh
  simp only [Value.slice.injEq] at hv
  obtain ⟨rfl, rfl, rfl⟩ := hv
  refine ⟨A, c, by rw [hlen], by omega, h2, h3, fun hne => ?_⟩
  obtain ⟨b, off, hA, _, hc⟩ := h4 (by rintro rfl; simp at hlen; exact hne (List.eq_nil_of_length_eq_zero hlen.symm))
  refine ⟨b, off, hA, hS b off hA, fun k s hs => ?_⟩
  obtain ⟨h, hk⟩ : ∃ h, H[k]? = some h := ⟨_, List.getElem?_eq_getElem (by have := (List.getElem?_eq_some_iff.1 hs).1; omega)⟩
  obtain ⟨cs, ⟨rfl, q1, q2⟩, hcs⟩ := hc k h hk
  obtain ⟨⟨e1, e2, e3, e4, e5⟩, hd⟩ := he k h s hk hs
  refine ⟨hdrCells h, ⟨h.dv, by rw [hdrCells, e1, e2, e3, e4], hd, by rw [← e2]; exact q1, by rw [← e1]; exact q2⟩, hcs⟩

/-- Sections in a row of the call's own, the bytes of each in a block of its own. -/
structure SecsX (w : World) (base hi : Nat) (tS t8 : TypeId) (v : Value) (H : List Hd) (l : List Sec) : Prop where
  own : OwnS hdrR w base tS (fun _ => False) v H
  len : H.length = l.length
  of : ∀ (k : Nat) h s, H[k]? = some h → l[k]? = some s → HdOf h s
  data : ∀ (k : Nat) h s, H[k]? = some h → l[k]? = some s → OwnS u8R w base t8 (fun _ => False) h.dv s.data
  apart : ∀ (k : Nat) h b, H[k]? = some h → h.dv.ownBlock = some b → v.ownBlock ≠ some b
  sep : ∀ (j k : Nat) h h' b, j ≠ k → H[j]? = some h → H[k]? = some h' → h.dv.ownBlock = some b → h'.dv.ownBlock ≠ some b
  topv : ∀ b, v.ownBlock = some b → b < hi
  topd : ∀ (k : Nat) h b, H[k]? = some h → h.dv.ownBlock = some b → b < hi
namespace SecsX
variable {w w' : World} {base hi : Nat} {tS t8 : TypeId} {v : Value} {H : List Hd} {l : List Sec}
theorem ext (x : SecsX w base hi tS t8 v H l) (he : Ext w w') : SecsX w' base hi tS t8 v H l :=
  ⟨x.own.ext he, x.len, x.of, fun k h s hk hs => (x.data k h s hk hs).ext he, x.apart, x.sep, x.topv, x.topd⟩
theorem lower {base' : Nat} (x : SecsX w base hi tS t8 v H l) (hb : base' ≤ base) : SecsX w base' hi tS t8 v H l :=
  ⟨x.own.lower hb, x.len, x.of, fun k h s hk hs => (x.data k h s hk hs).lower hb, x.apart, x.sep, x.topv, x.topd⟩
theorem raise {hi' : Nat} (x : SecsX w base hi tS t8 v H l) (hb : hi ≤ hi') : SecsX w base hi' tS t8 v H l :=
  ⟨x.own, x.len, x.of, x.data, x.apart, x.sep, fun b hb' => Nat.lt_of_lt_of_le (x.topv b hb') hb, fun k h b hk hb' => Nat.lt_of_lt_of_le (x.topd k h b hk hb') hb⟩
theorem sl (x : SecsX w base hi tS t8 v H l) {S : Nat → Prop} (hS : ∀ k, base ≤ k → S k) : Sl secR w S v l := by
  obtain ⟨A, c, hv, _⟩ := x.own.form
  have hh := hdrP.sl x.own (S := S) hS
  subst hv
  refine secs_of hh x.len (fun b off hA => ?_) fun k h s hk hs => ⟨x.of k h s hk hs, (x.data k h s hk hs).num_sl hS⟩
  have := x.own.block b (by rw [hA]; rfl)
  exact hS b this.1
/-- A store to a block that is none of theirs. -/
theorem far (x : SecsX w base hi tS t8 v H l) {p : Addr} {u : Value} (hp : hi ≤ p.block ∨ p.block < base) : SecsX (w.setCell p u) base hi tS t8 v H l := by
  have hv : v.ownBlock ≠ some p.block := fun e => by
    have h1 := x.topv _ e
    have h2 := x.own.block _ e
    omega
  refine ⟨x.own.set_far hv (fun _ h => h.elim), x.len, x.of, fun k h s hk hs => ?_, x.apart, x.sep, x.topv, x.topd⟩
  refine (x.data k h s hk hs).set_far (fun e => ?_) (fun _ h => h.elim)
  have h1 := x.topd k h _ hk e
  have h2 := (x.data k h s hk hs).block _ e
  omega
/-- The bytes of one of them changed. -/
theorem bytes (x : SecsX w base hi tS t8 v H l) {k : Nat} {h : Hd} {s : Sec} {d : List Nat} (hk : H[k]? = some h) (hs : l[k]? = some s) (hd : OwnS u8R w' base t8 (fun _ => False) h.dv d) (hlen : d.length = s.data.length)
    (hg : w.grownBy w' h.dv.ownBlock) : SecsX w' base hi tS t8 v H (l.set k { s with data := d }) := by
  have hv : v.ownBlock = none ∨ v.ownBlock ≠ h.dv.ownBlock := by
    cases e : h.dv.ownBlock with
    | none => cases e2 : v.ownBlock <;> simp
    | some b => exact .inr (x.apart k h b hk e)
  refine ⟨x.own.kept hg hv (fun _ h => h.elim), by rw [List.length_set]; exact x.len, fun j h' s' hj hs' => ?_, fun j h' s' hj hs' => ?_, x.apart, x.sep, x.topv, x.topd⟩
  · by_cases e : j = k
    · subst e
      rw [List.getElem?_set_self (List.getElem?_eq_some_iff.1 hs).1] at hs'
      cases hs'
      rw [hk] at hj
      cases hj
      obtain ⟨a, b, c, d', e⟩ := x.of j h s hk hs
      exact ⟨a, b, c, d', by rw [e]; exact hlen.symm⟩
    · rw [List.getElem?_set_ne (fun h => e h.symm)] at hs'
      exact x.of j h' s' hj hs'
  · by_cases e : j = k
    · subst e
      rw [List.getElem?_set_self (List.getElem?_eq_some_iff.1 hs).1] at hs'
      cases hs'
      rw [hk] at hj
      cases hj
      exact hd
    · rw [List.getElem?_set_ne (fun h => e h.symm)] at hs'
      refine (x.data j h' s' hj hs').kept hg ?_ (fun _ h => h.elim)
      cases e1 : h.dv.ownBlock with
      | none => cases e2 : h'.dv.ownBlock <;> simp
      | some b => exact .inr (x.sep k j h h' b (fun e' => e e'.symm) hk hj e1)
end SecsX

/-- Sections whose bytes are cloned one by one: the first k are done. -/
structure CloneInv (w wr : World) (base : Nat) (tS t8 : TypeId) (v : Value) (k : Nat) (H : List Hd) (l : List Sec) : Prop where
  own : OwnS hdrR wr base tS (fun _ => False) v H
  len : H.length = l.length
  of : ∀ (j : Nat) h s, H[j]? = some h → l[j]? = some s → HdOf h s
  done : ∀ (j : Nat) h s, j < k → H[j]? = some h → l[j]? = some s → OwnS u8R wr base t8 (fun _ => False) h.dv s.data
  todo : ∀ (j : Nat) h s, k ≤ j → H[j]? = some h → l[j]? = some s → Sl u8R w All h.dv s.data
  apart : ∀ (j : Nat) h b, j < k → H[j]? = some h → h.dv.ownBlock = some b → v.ownBlock ≠ some b
  sep : ∀ (i j : Nat) h h' b, i < k → j < k → i ≠ j → H[i]? = some h → H[j]? = some h' → h.dv.ownBlock = some b → h'.dv.ownBlock ≠ some b
theorem CloneInv.topd {w wr : World} {base : Nat} {tS t8 : TypeId} {v : Value} {k : Nat} {H : List Hd} {l : List Sec} (x : CloneInv w wr base tS t8 v k H l) {j : Nat} {h : Hd} {b : Nat} (hj : j < k) (hh : H[j]? = some h) (hb : h.dv.ownBlock = some b) : b < wr.heap.size := by
  obtain ⟨s, hs⟩ : ∃ s, l[j]? = some s := ⟨_, List.getElem?_eq_getElem (by have := (List.getElem?_eq_some_iff.1 hh).1; have := x.len; omega)⟩
  exact ((x.done j h s hj hh hs).block b hb).2
theorem CloneInv.step {w wr w1 : World} {base g n c k : Nat} {tS t8 : TypeId} {H : List Hd} {l : List Sec} {h : Hd} {s : Sec} {A' : Option Addr} {c' : Nat} (x : CloneInv w wr base tS t8 (.slice (some ⟨g, 0, none⟩) n c) k H l)
    (hk : H[k]? = some h) (hs : l[k]? = some s) (hown : OwnS u8R w1 wr.heap.size t8 All (.slice A' s.data.length c') s.data) (he : Ext wr w1) (hbase : base ≤ wr.heap.size) :
    CloneInv w (w1.setCell ⟨g, k * 5 + 2, none⟩ (.slice A' s.data.length c')) base tS t8 (.slice (some ⟨g, 0, none⟩) n c) (k + 1) (H.set k { h with A := A', n := s.data.length, c := c' }) l := by
  have hg : base ≤ g ∧ g < wr.heap.size := x.own.block g rfl
  have hlt := (List.getElem?_eq_some_iff.1 hk).1
  have hnew : ∀ b, (Value.slice A' s.data.length c').ownBlock = some b → wr.heap.size ≤ b := fun b hb => (hown.block b hb).1
  have hown' : OwnS u8R w1 base t8 (fun _ => False) (.slice A' s.data.length c') s.data := by
    obtain ⟨xs, ho, hc⟩ := hown.lower hbase
    exact ⟨xs, ho, chunks_num.2 (chunks_num.1 hc)⟩
  have hgne : (Value.slice A' s.data.length c').ownBlock ≠ some g := fun e => by have := hnew g e; omega
  have hold : ∀ j h', j ≠ k → (H.set k { h with A := A', n := s.data.length, c := c' })[j]? = some h' → H[j]? = some h' := fun j h' hj hh => by
    rw [List.getElem?_set_ne (fun e => hj e.symm)] at hh
    exact hh
  have hnow : ∀ h', (H.set k { h with A := A', n := s.data.length, c := c' })[k]? = some h' → h' = { h with A := A', n := s.data.length, c := c' } := fun h' hh => by
    rw [List.getElem?_set_self hlt] at hh
    injection hh with hh
    exact hh.symm
  have hhd := x.of k h s hk hs
  refine ⟨?_, by rw [List.length_set]; exact x.len, fun j h' s' hh hs' => ?_, fun j h' s' hj hh hs' => ?_, fun j h' s' hj hh hs' => ?_, fun j h' b hj hh hb => ?_, fun i j h1 h2 b hi hj hij hh1 hh2 hb => ?_⟩
  · refine hdrP.set (x.own.ext he) hk (by simp [hdrR]) rfl ?_
    exact hdrP.own_ok x.own h (List.mem_of_getElem? hk)
  · by_cases e : j = k
    · subst e
      rw [hs] at hs'
      cases hs'
      rw [hnow h' hh]
      exact ⟨hhd.1, hhd.2.1, hhd.2.2.1, hhd.2.2.2.1, rfl⟩
    · exact x.of j h' s' (hold j h' e hh) hs'
  · by_cases e : j = k
    · subst e
      rw [hs] at hs'
      cases hs'
      rw [hnow h' hh]
      exact hown'.set_far hgne (fun _ h => h.elim)
    · have hh' := hold j h' e hh
      refine ((x.done j h' s' (by omega) hh' hs').ext he).set_far (fun e' => ?_) (fun _ h => h.elim)
      exact x.apart j h' g (by omega) hh' e' rfl
  · exact x.todo j h' s' (by omega) (hold j h' (by omega) hh) hs'
  · by_cases e : j = k
    · subst e
      rw [hnow h' hh] at hb
      intro e'
      injection e' with e'
      subst e'
      exact hgne hb
    · exact x.apart j h' b (by omega) (hold j h' e hh) hb
  · by_cases e1 : i = k
    · subst e1
      rw [hnow h1 hh1] at hb
      intro e'
      have q1 := hnew b hb
      have q2 := x.topd (by omega) (hold j h2 (fun e => hij e.symm) hh2) e'
      omega
    · by_cases e2 : j = k
      · subst e2
        rw [hnow h2 hh2]
        intro e'
        have q1 := hnew b e'
        have q2 := x.topd (by omega) (hold i h1 e1 hh1) hb
        omega
      · exact x.sep i j h1 h2 b (by omega) (by omega) hij (hold i h1 e1 hh1) (hold j h2 e2 hh2) hb
theorem CloneInv.all {w wr : World} {base k : Nat} {tS t8 : TypeId} {v : Value} {H : List Hd} {l : List Sec} (x : CloneInv w wr base tS t8 v k H l) (hk : k = l.length) : SecsX wr base wr.heap.size tS t8 v H l := by
  have hl : ∀ j h, H[j]? = some h → j < k := fun j h hh => by
    have := (List.getElem?_eq_some_iff.1 hh).1
    have := x.len
    omega
  exact ⟨x.own, x.len, x.of, fun j h s hh hs => x.done j h s (hl j h hh) hh hs, fun j h b hh hb => x.apart j h b (hl j h hh) hh hb, fun i j h h' b hij h1 h2 hb => x.sep i j h h' b (hl i h h1) (hl j h' h2) hij h1 h2 hb,
    fun b hb => (x.own.block b hb).2, fun j h b hh hb => x.topd (hl j h hh) hh hb⟩
theorem CloneInv.start {w w1 : World} {base : Nat} {tS t8 : TypeId} {v : Value} {H : List Hd} {l : List Sec} (hown : OwnS hdrR w1 base tS All v H) (hlen : H.length = l.length)
    (he : ∀ (k : Nat) h s, H[k]? = some h → l[k]? = some s → HdOf h s ∧ Sl u8R w All h.dv s.data) : CloneInv w w1 base tS t8 v 0 H l :=
  ⟨hdrP.anyT hown _, hlen, fun j h s hh hs => (he j h s hh hs).1, fun _ _ _ hj => absurd hj (by omega), fun j h s _ hh hs => (he j h s hh hs).2, fun _ _ _ hj => absurd hj (by omega), fun _ _ _ _ _ hj => absurd hj (by omega)⟩
theorem CloneInv.ext {w wr w1 : World} {base k : Nat} {tS t8 : TypeId} {v : Value} {H : List Hd} {l : List Sec} (x : CloneInv w wr base tS t8 v k H l) (he : Ext wr w1) : CloneInv w w1 base tS t8 v k H l :=
  ⟨x.own.ext he, x.len, x.of, fun j h s hj hh hs => (x.done j h s hj hh hs).ext he, x.todo, x.apart, x.sep⟩
theorem CloneInv.far {w wr : World} {base k : Nat} {tS t8 : TypeId} {v : Value} {H : List Hd} {l : List Sec} (x : CloneInv w wr base tS t8 v k H l) {p : Addr} {u : Value} (hp : p.block < base) : CloneInv w (wr.setCell p u) base tS t8 v k H l :=
  ⟨x.own.set_far (fun e => by have := x.own.block _ e; omega) (fun _ h => h.elim), x.len, x.of, fun j h s hj hh hs => (x.done j h s hj hh hs).set_far (fun e => by have := (x.done j h s hj hh hs).block _ e; omega) (fun _ h => h.elim), x.todo, x.apart, x.sep⟩
end Go.Deco
