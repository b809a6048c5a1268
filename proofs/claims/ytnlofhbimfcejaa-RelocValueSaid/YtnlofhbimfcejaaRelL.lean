/- Relocations and objects as plain law: Check, Value, Apply, Sites, Rebase. No walk. -/
import Derived.Test.YtnlofhbimfcejaaSymL
namespace Go.Deco
open Go Go.RowKit
set_option linter.unusedVariables false

/-- A relocation. -/
structure Rl where
  sec : Int
  off : Int
  kind : Int
  sym : ByteArray
  add : Int
/-- An object. -/
structure Ob where
  entry : Nat
  secs : List Sec
  syms : List Sy
  rels : List Rl
def w32 (n : Int) : Nat := (n % 4294967296).toNat
theorem w32_lt (n : Int) : w32 n < 4294967296 := by unfold w32; omega
theorem w32_cast (n : Int) : ((w32 n : Nat) : Int) = n % 4294967296 := by unfold w32; omega
theorem wrap_w32 (n : Int) : IntKind.u32.wrap n = ((w32 n : Nat) : Int) := by
  rw [IntKind.wrap_u32, w32_cast]

/-- The error of a relocation. -/
def relOne (secs : List Sec) (syms : List Sy) (r : Rl) : Nat :=
  if (r.kind ≠ 1 ∧ r.kind ≠ 2) ∨ r.sec < 0 then 2 else
  match secs[r.sec.toNat]? with
  | none => 2
  | some s => if r.off < 0 ∨ (s.data.length : Int) - 4 < r.off then 7 else if (findSy syms r.sym.data.toList).isSome then 0 else 17
def shareB (a b : Rl) : Bool := decide (a.sec = b.sec) && (decide (a.off < b.off + 4) && decide (b.off < a.off + 4))
def sharedTo (pre : List Rl) : List Rl → Bool
  | [] => false
  | r :: l => pre.any (fun b => shareB r b) || sharedTo (pre ++ [r]) l
def relsErr (secs : List Sec) (syms : List Sy) : List Rl → Nat
  | [] => 0
  | r :: l => if relOne secs syms r = 0 then relsErr secs syms l else relOne secs syms r
def obCheck (o : Ob) : Nat :=
  if secCheck o.secs ≠ 0 then secCheck o.secs else if symCheck o.syms ≠ 0 then symCheck o.syms else if 256 < o.rels.length then 6 else
  if relsErr o.secs o.syms o.rels ≠ 0 then relsErr o.secs o.syms o.rels else if sharedTo [] o.rels then 10 else 0

theorem obCheck_secs {o : Ob} {e : Nat} (h : secCheck o.secs = e) (h0 : e ≠ 0) : obCheck o = e := by
  unfold obCheck
  rw [h, if_pos h0]
theorem obCheck_syms {o : Ob} {e : Nat} (h : secCheck o.secs = 0) (h1 : symCheck o.syms = e) (h0 : e ≠ 0) : obCheck o = e := by
  unfold obCheck
  rw [h, h1, if_neg (by simp), if_pos h0]
theorem obCheck_many {o : Ob} (h : secCheck o.secs = 0) (h1 : symCheck o.syms = 0) (h2 : 256 < o.rels.length) : obCheck o = 6 := by
  unfold obCheck
  rw [h, h1, if_neg (by simp), if_neg (by simp), if_pos h2]
theorem obCheck_rels {o : Ob} {e : Nat} (h : secCheck o.secs = 0) (h1 : symCheck o.syms = 0) (h2 : ¬ 256 < o.rels.length) (h3 : relsErr o.secs o.syms o.rels = e) (h0 : e ≠ 0) : obCheck o = e := by
  unfold obCheck
  rw [h, h1, h3, if_neg (by simp), if_neg (by simp), if_neg h2, if_pos h0]
theorem obCheck_last {o : Ob} {b : Bool} (h : secCheck o.secs = 0) (h1 : symCheck o.syms = 0) (h2 : ¬ 256 < o.rels.length) (h3 : relsErr o.secs o.syms o.rels = 0) (h4 : sharedTo [] o.rels = b) : obCheck o = if b then 10 else 0 := by
  unfold obCheck
  rw [h, h1, h3, h4, if_neg (by simp), if_neg (by simp), if_neg h2, if_neg (by simp)]
theorem obCheck_zero {o : Ob} (h : obCheck o = 0) : secCheck o.secs = 0 ∧ symCheck o.syms = 0 ∧ o.rels.length ≤ 256 ∧ relsErr o.secs o.syms o.rels = 0 ∧ sharedTo [] o.rels = false := by
  unfold obCheck at h
  split at h
  · exact absurd h (by assumption)
  · split at h
    · exact absurd h (by assumption)
    · split at h
      · omega
      · split at h
        · exact absurd h (by assumption)
        · split at h
          · omega
          · simp_all
theorem relsErr_step {secs : List Sec} {syms : List Sy} {l : List Rl} {k : Nat} {r : Rl} (hk : l[k]? = some r) (h : relOne secs syms r = 0) (hF : relsErr secs syms (l.drop k) = relsErr secs syms l) : relsErr secs syms (l.drop (k + 1)) = relsErr secs syms l := by
  rw [← hF, drop_cons' hk, relsErr, if_pos h]
theorem relsErr_hit {secs : List Sec} {syms : List Sy} {l : List Rl} {k e : Nat} {r : Rl} (hk : l[k]? = some r) (h : relOne secs syms r = e) (h0 : e ≠ 0) (hF : relsErr secs syms (l.drop k) = relsErr secs syms l) : relsErr secs syms l = e := by
  rw [← hF, drop_cons' hk, relsErr, h, if_neg h0]
theorem relsErr_end {secs : List Sec} {syms : List Sy} {l : List Rl} (hF : relsErr secs syms (l.drop l.length) = relsErr secs syms l) : relsErr secs syms l = 0 := by
  rw [← hF, List.drop_length]
  rfl
theorem relsErr_each {secs : List Sec} {syms : List Sy} : ∀ {l : List Rl}, relsErr secs syms l = 0 → ∀ r ∈ l, relOne secs syms r = 0
  | [], _, _, h => by simp at h
  | x :: l, h, r, hr => by
    rw [relsErr] at h
    split at h
    · rename_i hx
      rcases List.mem_cons.1 hr with rfl | hr
      · exact hx
      · exact relsErr_each h r hr
    · contradiction
theorem relsErr_all {secs : List Sec} {syms : List Sy} : ∀ {l : List Rl}, (∀ r ∈ l, relOne secs syms r = 0) → relsErr secs syms l = 0
  | [], _ => rfl
  | x :: l, h => by
    rw [relsErr, if_pos (h x (by simp))]
    exact relsErr_all fun r hr => h r (by simp [hr])
theorem relOne_zero {secs : List Sec} {syms : List Sy} {r : Rl} (h : relOne secs syms r = 0) :
    ∃ (k : Nat) (s : Sec) (f : Nat) (t : Sy), r.sec = k ∧ secs[k]? = some s ∧ r.off = f ∧ f + 4 ≤ s.data.length ∧ findSy syms r.sym.data.toList = some t ∧ (r.kind = 1 ∨ r.kind = 2) := by
  unfold relOne at h
  split at h
  · omega
  · rename_i h1
    split at h
    · omega
    · rename_i s hs
      split at h
      · omega
      · rename_i h2
        split at h
        · rename_i h3
          obtain ⟨t, ht⟩ := Option.isSome_iff_exists.1 h3
          exact ⟨r.sec.toNat, s, r.off.toNat, t, by omega, hs, by omega, by omega, ht, by omega⟩
        · omega
theorem shared_step {l : List Rl} {k : Nat} {s : Rl} (hk : l[k]? = some s) (he : (l.take k).any (fun b => shareB s b) = false) (hF : sharedTo (l.take k) (l.drop k) = sharedTo [] l) : sharedTo (l.take (k + 1)) (l.drop (k + 1)) = sharedTo [] l := by
  rw [drop_cons' hk, sharedTo, he, Bool.false_or, ← take_snoc' hk] at hF
  exact hF
theorem shared_hit {l : List Rl} {k : Nat} {s : Rl} (hk : l[k]? = some s) (he : (l.take k).any (fun b => shareB s b) = true) (hF : sharedTo (l.take k) (l.drop k) = sharedTo [] l) : sharedTo [] l = true := by
  rw [drop_cons' hk, sharedTo, he, Bool.true_or] at hF
  exact hF.symm
theorem shared_end {l : List Rl} (hF : sharedTo (l.take l.length) (l.drop l.length) = sharedTo [] l) : sharedTo [] l = false := by
  rw [List.drop_length, sharedTo] at hF
  exact hF.symm
theorem any_take_step {E : Type} {p : E → Bool} {l : List E} {k : Nat} {s : E} (hk : l[k]? = some s) (hp : p s = false) (h : (l.take k).any p = false) : (l.take (k + 1)).any p = false := by
  rw [take_snoc' hk, List.any_append, h]
  simp [hp]
theorem any_take_hit {E : Type} {p : E → Bool} {l : List E} {k j : Nat} {s : E} (hk : l[k]? = some s) (hp : p s = true) (hj : k < j) : (l.take j).any p = true := by
  rw [List.any_eq_true]
  refine ⟨s, ?_, hp⟩
  have : (l.take j)[k]? = some s := by rw [List.getElem?_take_of_lt hj, hk]
  exact List.mem_of_getElem? this

/-- The number that a relocation writes, and the error. -/
def relVal (r : Rl) (place target : Nat) : Nat × Nat :=
  if r.kind = 1 then (w32 (target + r.add), 0) else if r.kind = 2 then (w32 (target + r.add - place - 4), 0) else (0, 2)
def bytes4 (n : Nat) : List Nat := [n % 256, n / 256 % 256, n / 65536 % 256, n / 16777216 % 256]
def put4 (d : List Nat) (f n : Nat) : List Nat := d.take f ++ bytes4 n ++ d.drop (f + 4)
theorem put4_len {d : List Nat} {f n : Nat} (h : f + 4 ≤ d.length) : (put4 d f n).length = d.length := by
  simp [put4, bytes4]
  omega
def relNum (syms : List Sy) (s : Sec) (r : Rl) : Nat := (relVal r (w32 (s.addr + r.off)) ((findSy syms r.sym.data.toList).getD Sy.zero).addr).1
/-- One relocation applied. -/
def patchS (syms : List Sy) (l : List Sec) (r : Rl) : List Sec :=
  match l[r.sec.toNat]? with
  | none => l
  | some s => l.set r.sec.toNat { s with data := put4 s.data r.off.toNat (relNum syms s r) }
def applyOb (o : Ob) : Ob := ⟨o.entry, o.rels.foldl (patchS o.syms) o.secs, o.syms, []⟩
def Ob.zero : Ob := ⟨0, [], [], []⟩
/-- Apply: the object and the error. -/
def applyR (o : Ob) : Ob × Nat := if obCheck o = 0 then (applyOb o, 0) else (Ob.zero, obCheck o)
def moveOb (o : Ob) (by_ : Nat) : Ob := ⟨w32 (o.entry + by_), o.secs.map (fun s => { s with addr := w32 (s.addr + by_) }), o.syms.map (fun s => { s with addr := w32 (s.addr + by_) }), o.rels⟩
/-- Rebase: the object and the error. -/
def rebaseR (o : Ob) (by_ : Nat) : Ob × Nat := if obCheck o = 0 then (if obCheck (moveOb o by_) = 0 then (moveOb o by_, 0) else (Ob.zero, obCheck (moveOb o by_))) else (Ob.zero, obCheck o)
/-- The places of the relocations whose section there is. -/
def placesOf (o : Ob) : List Nat := o.rels.filterMap fun r => if r.sec < 0 then none else (o.secs[r.sec.toNat]?).map fun s => w32 (s.addr + r.off)

/-- How a relocation lies in memory: five cells. -/
def relCells (r : Rl) : List Value := [.int .i64 r.sec, .int .i64 r.off, .int .i64 r.kind, .string r.sym, .int .i32 r.add]
def RlOk (r : Rl) : Prop := (-9223372036854775808 ≤ r.sec ∧ r.sec ≤ 9223372036854775807) ∧ (-9223372036854775808 ≤ r.off ∧ r.off ≤ 9223372036854775807) ∧ (-9223372036854775808 ≤ r.kind ∧ r.kind ≤ 9223372036854775807) ∧ r.sym.size ≤ maxLen ∧ (-2147483648 ≤ r.add ∧ r.add ≤ 2147483647)
def relR : Rep Rl where
  size := 5
  pos := by omega
  rel _ _ cs r := cs = relCells r ∧ RlOk r
  keep _ h := h
  mono _ h := h
  len h := by rw [h.1]; rfl
  one h u hu := by
    rw [h.1] at hu
    simp [relCells] at hu
    rcases hu with rfl | rfl | rfl | rfl | rfl <;> rfl
theorem Sl.rel_at {w : World} {S : Nat → Prop} {A : Option Addr} {n c k : Nat} {l : List Rl} {r : Rl} (h : Sl relR w S (.slice A n c) l) (hk : l[k]? = some r) :
    ∃ b off, A = some ⟨b, off, none⟩ ∧ RlOk r ∧ w.cell? ⟨b, off + k * 5, none⟩ = some (.int .i64 r.sec) ∧ w.cell? ⟨b, off + k * 5 + 1, none⟩ = some (.int .i64 r.off) ∧ w.cell? ⟨b, off + k * 5 + 2, none⟩ = some (.int .i64 r.kind) ∧
      w.cell? ⟨b, off + k * 5 + 3, none⟩ = some (.string r.sym) ∧ w.cell? ⟨b, off + k * 5 + 4, none⟩ = some (.int .i32 r.add) := by
  obtain ⟨b, off, cs, hA, ⟨hcs, h1⟩, hc⟩ := h.get hk
  subst hcs
  exact ⟨b, off, hA, h1, by simpa [relR] using hc 0 _ rfl, hc 1 _ rfl, hc 2 _ rfl, hc 3 _ rfl, hc 4 _ rfl⟩
end Go.Deco
