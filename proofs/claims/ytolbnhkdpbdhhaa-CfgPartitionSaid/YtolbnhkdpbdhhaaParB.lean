/- CfgPartition: the plain law: the blocks of ascending instructions that do not overlap. No walk. law17.plain. -/
import Derived.Test.YtolbnhkdpbdhhaaBkC
import Derived.Test.YtolbnhkdpbdhhaaChkC
import Derived.Test.YtolbnhkdpbdhhaaL17A
import Derived.Deep.DeepBigQuietO
import Derived.Deep.CutRange
namespace Go.Proofs.Ytolbnhkdpbdhhaa
open Go.RowKit Go.Deco
set_option linter.unusedSimpArgs false
set_option linter.unusedVariables false

/-- Each instruction ends behind its address, and the next one begins there or later. -/
def PlainL (ins : List In) : Prop := ∀ k i, ins[k]? = some i → i.addr < nextI i ∧ ∀ j, ins[k + 1]? = some j → nextI i ≤ j.addr
theorem plain_far {ins : List In} (h : PlainL ins) : ∀ (d k : Nat) (i j : In), ins[k]? = some i → ins[k + 1 + d]? = some j → nextI i ≤ j.addr
  | 0, k, i, j, hi, hj => (h k i hi).2 j hj
  | d + 1, k, i, j, hi, hj => by
    obtain ⟨m, hm⟩ : ∃ m, ins[k + 1]? = some m := ⟨_, List.getElem?_eq_getElem (by have := (List.getElem?_eq_some_iff.1 hj).1; omega)⟩
    have h1 := (h k i hi).2 m hm
    have h2 := (h (k + 1) m hm).1
    have h3 := plain_far h d (k + 1) m j hm (by rw [← hj]; congr 1; omega)
    omega
theorem plain_cmp {ins : List In} (h : PlainL ins) {i j : In} (hi : i ∈ ins) (hj : j ∈ ins) : i = j ∨ nextI i ≤ j.addr ∨ nextI j ≤ i.addr := by
  obtain ⟨p, hp⟩ := List.getElem?_of_mem hi
  obtain ⟨q, hq⟩ := List.getElem?_of_mem hj
  rcases Nat.lt_trichotomy p q with hpq | hpq | hpq
  · exact .inr (.inl (plain_far h (q - (p + 1)) p i j hp (by rw [← hq]; congr 1; omega)))
  · subst hpq
    rw [hp] at hq
    injection hq with hq
    exact .inl hq
  · exact .inr (.inr (plain_far h (p - (q + 1)) q j i hq (by rw [← hp]; congr 1; omega)))
theorem plain_lt {ins : List In} (h : PlainL ins) {i : In} (hi : i ∈ ins) : i.addr < nextI i := by
  obtain ⟨p, hp⟩ := List.getElem?_of_mem hi
  exact (h p i hp).1
theorem plain_next {ins : List In} (h : PlainL ins) {i j : In} (hi : i ∈ ins) (hj : j ∈ ins) (hl : i.addr < j.addr) : nextI i ≤ j.addr := by
  rcases plain_cmp h hi hj with rfl | h1 | h1
  · omega
  · exact h1
  · have := plain_lt h hj
    omega
theorem plain_one {ins : List In} (h : PlainL ins) {i j : In} (hi : i ∈ ins) (hj : j ∈ ins) (hl : i.addr = j.addr) : i = j := by
  rcases plain_cmp h hi hj with h1 | h1 | h1
  · exact h1
  · have := plain_lt h hi
    omega
  · have := plain_lt h hj
    omega
theorem plain_first {ins : List In} (h : PlainL ins) {i : In} (hi : i ∈ ins) : firstIn ins i.addr = some i := by
  cases hf : firstIn ins i.addr with
  | none =>
    unfold firstIn at hf
    rw [List.find?_eq_none] at hf
    have := hf i hi
    simp at this
  | some j =>
    obtain ⟨h1, h2⟩ := firstIn_addr hf
    rw [plain_one h h2 hi h1]
theorem plain_asc {ins : List In} (h : PlainL ins) : ins.Pairwise (fun i j => i.addr < j.addr) := by
  rw [List.pairwise_iff_getElem]
  intro p q hp hq hpq
  have h1 := plain_far h (q - (p + 1)) p _ ins[q] (List.getElem?_eq_getElem hp) (by rw [← List.getElem?_eq_getElem hq]; congr 1; omega)
  have h2 := plain_lt h (List.getElem_mem hp)
  omega
/-- What is so of the instructions of a block. -/
structure BkOk (ins : List In) (ld : List Nat) (a : Nat) (L : List In) (z : In) : Prop where
  last : L.getLast? = some z
  chain : chainB (nextI z) L a = true
  mem : ∀ y ∈ L, y ∈ ins ∧ a ≤ y.addr ∧ y.addr < nextI z
  all : ∀ j ∈ ins, a ≤ j.addr → j.addr < nextI z → j ∈ L
  lead : ∀ x ∈ ld, hasIn ins x = true → a < x → nextI z ≤ x
  asc : L.Pairwise (fun i j => i.addr < j.addr)
  zin : z ∈ ins
  stop : stopB ins ld z.addr z = true
  lt : a < nextI z
theorem has_mem {ins : List In} {x : Nat} (h : hasIn ins x = true) : ∃ j ∈ ins, j.addr = x := by
  obtain ⟨j, hj⟩ := Option.isSome_iff_exists.1 h
  exact ⟨j, (firstIn_addr hj).2, (firstIn_addr hj).1⟩
theorem blk_ok {ins : List In} {ld : List Nat} (h : PlainL ins) : ∀ (f a : Nat), 4294967296 - a ≤ f → a < 4294967296 → (∃ i, firstIn ins a = some i) → ∃ z, BkOk ins ld a (blkFrom ins ld a) z
  | 0, a, hf, ha, _ => by omega
  | f + 1, a, hf, ha, ⟨i, hi⟩ => by
    obtain ⟨rfl, him⟩ := firstIn_addr hi
    have hlt := plain_lt h him
    cases hs : stopB ins ld i.addr i with
    | true =>
      rw [blkFrom_stop ha hi hs]
      refine ⟨i, rfl, by simp [chainB], ?_, ?_, ?_, by simp, him, hs, hlt⟩
      · intro y hy
        rw [List.mem_singleton] at hy
        subst hy
        exact ⟨him, Nat.le_refl _, hlt⟩
      · intro j hj h1 h2
        rw [List.mem_singleton]
        rcases Nat.lt_or_ge i.addr j.addr with h3 | h3
        · have := plain_next h him hj h3
          omega
        · exact plain_one h hj him (by omega)
      · intro x _ hx hax
        obtain ⟨j, hj, rfl⟩ := has_mem hx
        exact plain_next h him hj hax
    | false =>
      obtain ⟨h1, h2⟩ := stopB_next hs
      have h32 := nextI_lt i
      obtain ⟨z, hz⟩ := blk_ok (ld := ld) h f (nextI i) (by omega) h32 (Option.isSome_iff_exists.1 h2)
      have hst : stopsI i = false := by unfold stopB at hs; simp only [Bool.or_eq_false_iff] at hs; exact hs.1
      have hld : ld.contains (nextI i) = false := by unfold stopB at hs; simp only [Bool.or_eq_false_iff] at hs; exact hs.2.1
      rw [blkFrom_next ha hi hs]
      have hzl := hz.lt
      refine ⟨z, ?_, ?_, ?_, ?_, ?_, ?_, hz.zin, hz.stop, by omega⟩
      · rw [List.getLast?_cons, hz.last]
        rfl
      · rw [chainB]
        simp [hst, hz.chain]
      · intro y hy
        rcases List.mem_cons.1 hy with rfl | hy
        · exact ⟨him, Nat.le_refl _, by omega⟩
        · have := hz.mem y hy
          exact ⟨this.1, by omega, this.2.2⟩
      · intro j hj h3 h4
        rcases Nat.lt_or_ge i.addr j.addr with h5 | h5
        · exact List.mem_cons_of_mem _ (hz.all j hj (plain_next h him hj h5) h4)
        · rw [plain_one h hj him (by omega)]
          exact List.mem_cons_self
      · intro x hx hhx hax
        obtain ⟨j, hj, rfl⟩ := has_mem hhx
        have h5 := plain_next h him hj hax
        rcases Nat.lt_or_ge (nextI i) j.addr with h6 | h6
        · exact hz.lead _ hx hhx h6
        · have h7 : nextI i = j.addr := by omega
          rw [h7] at hld
          simp at hld
          exact absurd hx hld
      · rw [List.pairwise_cons]
        exact ⟨fun y hy => by have := hz.mem y hy; omega, hz.asc⟩
theorem countP_or {p q : In → Bool} : ∀ (l : List In), (∀ i ∈ l, ¬ (p i = true ∧ q i = true)) → l.countP (fun i => p i || q i) = l.countP p + l.countP q
  | [], _ => rfl
  | i :: r, h => by
    rw [List.countP_cons, List.countP_cons, List.countP_cons, countP_or r fun j hj => h j (List.mem_cons_of_mem _ hj)]
    have := h i List.mem_cons_self
    cases hp : p i <;> cases hq : q i <;> simp_all <;> omega
/-- What is so of all blocks. -/
structure PartOk (ins : List In) (l : List Bs) : Prop where
  len : l.length ≤ 256
  chk : checkBs l = 0
  lt : ∀ x ∈ l, x.addr < x.end_
  ord : ∀ k x y, l[k]? = some x → l[k + 1]? = some y → x.end_ ≤ y.addr
  succ : ∀ x ∈ l, ∀ s ∈ x.succ, ∃ j y, atBs l s = (j, true) ∧ l[j]? = some y ∧ y.addr = s
  sum : (l.map fun b => b.ins.length).sum = ins.countP fun i => (atBs l i.addr).2
theorem chkGo_ok : ∀ (l m : List Bs), (∀ x ∈ m, formedB x = true) → (∀ x ∈ m, ∀ y ∈ l, y.addr < x.addr) → m.Pairwise (fun x y => x.addr < y.addr) → chkGo l m = 0
  | l, [], _, _, _ => rfl
  | l, x :: r, hf, hl, hp => by
    rw [List.pairwise_cons] at hp
    have h1 := hf x List.mem_cons_self
    have h2 : l.any (eqBs x.addr) = false := by
      rw [List.any_eq_false]
      intro y hy
      have := hl x List.mem_cons_self y hy
      simp [eqBs]
      omega
    have h3 := chkGo_ok (l ++ [x]) r (fun y hy => hf y (List.mem_cons_of_mem _ hy)) (fun y hy z hz => by
      rcases List.mem_append.1 hz with hz | hz
      · exact hl y (List.mem_cons_of_mem _ hy) z hz
      · rw [List.mem_singleton] at hz
        subst hz
        exact hp.1 y hy) hp.2
    have h4 : errAt l x = 0 := by simp [errAt, h1, h2]
    rw [chkGo, if_pos h4, h3]
theorem bb_eq {ins : List In} {ld : List Nat} {tabs : List (List Nat)} {at_ : List Nat} {a : Nat} {z : In} (h : BkOk ins ld a (blkFrom ins ld a) z) : blockBs ins ld tabs at_ a = ⟨a, nextI z, blkFrom ins ld a, succL ins tabs at_ z, callsL tabs at_ (blkFrom ins ld a)⟩ := by
  unfold blockBs
  simp only [h.last, Option.getD_some]
theorem fil_len {ins : List In} (h : PlainL ins) {a e : Nat} {L : List In} (hm : ∀ y ∈ L, y ∈ ins ∧ a ≤ y.addr ∧ y.addr < e) (hall : ∀ j ∈ ins, a ≤ j.addr → j.addr < e → j ∈ L) (hp : L.Pairwise (fun i j => i.addr < j.addr)) :
    L.length = ins.countP fun i => decide (a ≤ i.addr) && decide (i.addr < e) := by
  rw [List.countP_eq_length_filter]
  suffices key : L.map (fun i : In => i.addr) = (ins.filter fun i => decide (a ≤ i.addr) && decide (i.addr < e)).map (fun i : In => i.addr) by
    have := congrArg List.length key
    rwa [List.length_map, List.length_map] at this
  refine pw_ext (List.pairwise_map.2 hp) (List.pairwise_map.2 ((plain_asc h).filter _)) fun x => ?_
  rw [List.mem_map, List.mem_map]
  constructor
  · rintro ⟨y, hy, rfl⟩
    obtain ⟨h1, h2, h3⟩ := hm y hy
    exact ⟨y, List.mem_filter.2 ⟨h1, by simp [h2, h3]⟩, rfl⟩
  · rintro ⟨y, hy, rfl⟩
    obtain ⟨h1, h2⟩ := List.mem_filter.1 hy
    simp only [Bool.and_eq_true, decide_eq_true_eq] at h2
    exact ⟨y, hall y h1 h2.1 h2.2, rfl⟩
theorem sum_any {ins : List In} : ∀ (l : List Bs), (∀ x ∈ l, x.ins.length = ins.countP fun i => inBs i.addr x) → l.Pairwise (fun x y => x.end_ ≤ y.addr) → (l.map fun b => b.ins.length).sum = ins.countP fun i => l.any (inBs i.addr)
  | [], _, _ => by simp
  | x :: r, h, hp => by
    rw [List.pairwise_cons] at hp
    rw [List.map_cons, List.sum_cons, sum_any r (fun y hy => h y (List.mem_cons_of_mem _ hy)) hp.2, h x List.mem_cons_self]
    simp only [List.any_cons]
    rw [countP_or]
    rintro i _ ⟨h1, h2⟩
    obtain ⟨y, hy, h2⟩ := List.any_eq_true.1 h2
    have := hp.1 y hy
    simp only [inBs, Bool.and_eq_true, decide_eq_true_eq] at h1 h2
    omega
theorem at_any2 (l : List Bs) (a : Nat) : (atBs l a).2 = l.any (inBs a) := by
  unfold atBs
  cases h : l.findIdx? (inBs a) with
  | none =>
    rw [List.findIdx?_eq_none_iff] at h
    symm
    rw [List.any_eq_false]
    intro x hx
    simp [h x hx]
  | some k =>
    rw [List.findIdx?_eq_some_iff_getElem] at h
    obtain ⟨hk, h1, _⟩ := h
    symm
    exact List.any_eq_true.2 ⟨_, List.getElem_mem hk, h1⟩
theorem part_ok {ins : List In} {entries : List Nat} {tabs : List (List Nat)} {at_ : List Nat} {l : List Bs} (h : PlainL ins) (hin : ∀ i ∈ ins, i.addr < 4294967296) (hl : blocksR ins entries tabs at_ = (l, 0)) : PartOk ins l := by
  unfold blocksR at hl
  obtain ⟨R, hR⟩ : ∃ R, leadL ins entries tabs at_ = R := ⟨_, rfl⟩
  rw [hR] at hl
  simp only [] at hl
  split at hl
  · cases hl
  rename_i hlen
  split at hl
  · cases hl
  injection hl with hl _
  have hpw : R.Pairwise (· < ·) := by rw [← hR]; exact asc_pw _
  have hhas : ∀ x ∈ R, hasIn ins x = true := fun x hx => by
    rw [← hR] at hx
    unfold leadL at hx
    rw [asc_mem, List.mem_filter] at hx
    exact hx.2
  have hok : ∀ x ∈ R, ∃ z, BkOk ins R x (blkFrom ins R x) z := fun x hx => by
    obtain ⟨j, hj, rfl⟩ := has_mem (hhas x hx)
    exact blk_ok h _ _ (Nat.le_refl _) (hin j hj) ⟨j, plain_first h hj⟩
  have hpl : l.Pairwise (fun x y => x.end_ ≤ y.addr) := by
    rw [← hl, List.pairwise_map]
    refine (List.Pairwise.and_mem.1 hpw).imp ?_
    rintro x y ⟨hx, hy, hxy⟩
    obtain ⟨z, hz⟩ := hok x hx
    rw [bb_eq hz]
    exact hz.lead y hy (hhas y hy) hxy
  have hlt : ∀ x ∈ l, x.addr < x.end_ := fun x hx => by
    rw [← hl] at hx
    obtain ⟨a, ha, rfl⟩ := List.mem_map.1 hx
    obtain ⟨z, hz⟩ := hok a ha
    rw [bb_eq hz]
    exact hz.lt
  have hle : l.length ≤ 256 := by rw [← hl, List.length_map]; omega
  refine ⟨hle, ?_, hlt, ?_, ?_, ?_⟩
  · unfold checkBs
    rw [if_neg (by omega)]
    refine chkGo_ok [] l ?_ (by simp) ?_
    · intro x hx
      rw [← hl] at hx
      obtain ⟨a, ha, rfl⟩ := List.mem_map.1 hx
      obtain ⟨z, hz⟩ := hok a ha
      rw [bb_eq hz]
      unfold formedB
      have hne : blkFrom ins R a ≠ [] := fun e => by have := hz.last; rw [e] at this; cases this
      simp [hz.chain, hne]
    · refine (List.Pairwise.and_mem.1 hpl).imp ?_
      rintro x y ⟨hx, _, hxy⟩
      have := hlt x hx
      omega
  · intro k x y hx hy
    have h1 := List.pairwise_iff_getElem.1 hpl k (k + 1) (List.getElem?_eq_some_iff.1 hx).1 (List.getElem?_eq_some_iff.1 hy).1 (by omega)
    rw [(List.getElem?_eq_some_iff.1 hx).2, (List.getElem?_eq_some_iff.1 hy).2] at h1
    exact h1
  · intro x hx s hs
    rw [← hl] at hx
    obtain ⟨a, ha, rfl⟩ := List.mem_map.1 hx
    obtain ⟨z, hz⟩ := hok a ha
    rw [bb_eq hz] at hs
    simp only [succL] at hs
    obtain ⟨hs1, hs2⟩ := List.mem_filter.1 hs
    have hsR : s ∈ R := by
      rcases List.mem_append.1 hs1 with h1 | h1
      · rw [← hR]
        unfold leadL
        rw [asc_mem, List.mem_filter, candList_mem]
        exact ⟨.inr ⟨z.addr, z, plain_first h hz.zin, by unfold candI; exact List.mem_append.2 (.inl h1)⟩, hs2⟩
      · have he : endsI z = false := by
          cases he : endsI z with
          | false => rfl
          | true => rw [he] at h1; simp at h1
        rw [he] at h1
        have h1 : s = nextI z := by simpa using h1
        cases hst : stopsI z with
        | true =>
          rw [← hR]
          unfold leadL
          rw [asc_mem, List.mem_filter, candList_mem]
          exact ⟨.inr ⟨z.addr, z, plain_first h hz.zin, by unfold candI; rw [hst]; exact List.mem_append.2 (.inr (by simp [h1]))⟩, hs2⟩
        | false =>
          have hz2 := hz.stop
          have hzl := plain_lt h hz.zin
          unfold stopB at hz2
          rw [hst, ← h1, hs2] at hz2
          rw [← h1] at hzl
          simp at hz2
          rcases hz2 with h2 | h2
          · exact h2
          · omega
    obtain ⟨j, hj⟩ := List.getElem?_of_mem hsR
    obtain ⟨zs, hzs⟩ := hok s hsR
    have hlj : l[j]? = some (blockBs ins R tabs at_ s) := by rw [← hl, List.getElem?_map, hj]; rfl
    refine ⟨j, blockBs ins R tabs at_ s, atBs_hit ?_ hlj ?_, hlj, rfl⟩
    · intro y hy
      obtain ⟨q, hq⟩ := List.getElem?_of_mem hy
      have hqj : q < j := by have := (List.getElem?_eq_some_iff.1 hq).1; rw [List.length_take] at this; omega
      rw [List.getElem?_take_of_lt hqj] at hq
      have h1 := List.pairwise_iff_getElem.1 hpl q j (List.getElem?_eq_some_iff.1 hq).1 (List.getElem?_eq_some_iff.1 hlj).1 hqj
      rw [(List.getElem?_eq_some_iff.1 hq).2, (List.getElem?_eq_some_iff.1 hlj).2, bb_eq hzs] at h1
      simp only [] at h1
      simp [inBs]
      omega
    · rw [bb_eq hzs]
      have := hzs.lt
      simp [inBs]
      omega
  · simp only [at_any2]
    refine sum_any l ?_ hpl
    intro x hx
    rw [← hl] at hx
    obtain ⟨a, ha, rfl⟩ := List.mem_map.1 hx
    obtain ⟨z, hz⟩ := hok a ha
    rw [bb_eq hz]
    exact fil_len h hz.mem hz.all hz.asc
theorem blocksR_err {ins : List In} {entries : List Nat} {tabs : List (List Nat)} {at_ : List Nat} {l : List Bs} {e : Nat} (hl : blocksR ins entries tabs at_ = (l, e)) (he : e ≠ 0) : l = [] ∧ (e = 19 ∨ e = 6) := by
  unfold blocksR at hl
  simp only [] at hl
  split at hl
  · injection hl with h1 h2
    exact ⟨h1.symm, .inr h2.symm⟩
  · split at hl
    · injection hl with h1 h2
      exact ⟨h1.symm, .inl h2.symm⟩
    · injection hl with h1 h2
      exact absurd h2.symm he
end Go.Proofs.Ytolbnhkdpbdhhaa

namespace Go.Proofs.Ytolbnhkdpbdhhaa
open Go.RowKit Go.Deco
set_option linter.unusedSimpArgs false
set_option linter.unusedVariables false
set_option maxRecDepth 100000

/-- What plain has seen of the first instructions. -/
def PlTo (ins : List In) (j : Nat) : Prop := ∀ k i, k < j → ins[k]? = some i → (1 ≤ i.size ∧ i.size ≤ 6 ∧ (nextI i : Int) = i.addr + i.size) ∧ ∀ q p, k = q + 1 → ins[q]? = some p → (p.addr : Int) + p.size ≤ i.addr
theorem PlTo.step {ins : List In} {j : Nat} {i : In} (h : PlTo ins j) (hi : ins[j]? = some i) (h1 : 1 ≤ i.size) (h2 : i.size ≤ 6) (h3 : (nextI i : Int) = i.addr + i.size) (h4 : ∀ q p, j = q + 1 → ins[q]? = some p → (p.addr : Int) + p.size ≤ i.addr) : PlTo ins (j + 1) := by
  intro k x hk hx
  by_cases e : k = j
  · subst e
    rw [hi] at hx
    injection hx with hx
    subst hx
    exact ⟨⟨h1, h2, h3⟩, h4⟩
  · exact h k x (by omega) hx
theorem PlTo.all {ins : List In} (h : PlTo ins ins.length) : PlainL ins := by
  intro k i hi
  have hk := (List.getElem?_eq_some_iff.1 hi).1
  obtain ⟨⟨h1, h2, h3⟩, -⟩ := h k i hk hi
  refine ⟨by omega, fun j hj => ?_⟩
  have := (h (k + 1) j (List.getElem?_eq_some_iff.1 hj).1 hj).2 k i rfl hi
  omega
def PlainPost (w : World) (ins : List In) (e : Ending) (w' : World) : Prop := ∃ b, e = .returned (.bool b) ∧ Ext w w' ∧ (b = true → PlainL ins)

set_option maxHeartbeats 16000000 in
theorem plain17_any (w : World) (A E U B : Option Addr) (n c ne ce nu cu nb cb : Nat) (ins : List In) (hi : Sl insR w All (.slice A n c) ins) (hn : n ≤ 600) :
    Calls Try.prog 25 #[.agg #[.slice A n c, .slice E ne ce, .slice U nu cu, .slice B nb cb]] w (PlainPost w ins) := by
  obtain ⟨W0, hW0⟩ : ∃ W0, w.alloc (.cells #[.slice A n c, .slice E ne ce, .slice U nu cu, .slice B nb cb] 25) = W0 := ⟨_, rfl⟩
  have hE : Ext w W0 := by rw [← hW0]; exact (Ext.refl w).alloc _
  have q0 : W0.cell? ⟨w.heap.size, 0, none⟩ = some (.slice A n c) := by rw [← hW0]; simp [go_sem]
  have HS := hid (hi.ext hE)
  have HLN := hid hi.len
  have HE := hid hE
  have Q0 := hid q0
  have hcap := hi.cap
  clear hi hE
  have mixed : Try.prog.follows Departure.mixedOrders = true := by kernel_rfl
  go_enter Try.func25, Try.ntmps25
  go_wp2
  clear hW0 q0
  go_loopw [3] (fun s3 wr => ∃ j : Nat, j ≤ n ∧ s3 = .int .i64 j ∧ Hid (Ext W0 wr) ∧ Hid (PlTo ins j)) (fun s3 _ => n - (intOf s3).toNat)
  case atStart => exact ⟨0, by omega, rfl, hid (Ext.refl _), hid (fun k _ hk => by omega)⟩
  case round =>
    obtain ⟨j, hj, rfl, HX, HP⟩ := hrel
    have q0 := HX.out.cell Q0.out
    by_cases hjn : j < n
    · obtain ⟨i, hi⟩ : ∃ i, ins[j]? = some i := ⟨_, List.getElem?_eq_getElem (by have := HLN.out; omega)⟩
      obtain ⟨b, o, rfl, hok, z0, z1, z2, z3, z4, z5, z6, z7, z8⟩ := Sl.in_at (HS.out.ext HX.out) hi
      have i1 : (j : Int) < (n : Int) := by omega
      have i0 : (0 : Int) ≤ (j : Int) := by omega
      have HI := hid hi
      have h32 := hok.1
      have HNX := hid (fun W => isanext_any W i hok)
      have e9 : inV i = .agg #[.int .u32 i.addr, .int .u32 i.imm, .int .i64 i.op, .int .i64 i.form, .int .i64 i.width, .int .i64 i.cc, .int .i64 i.a, .int .i64 i.b, .int .i64 i.size] := rfl
      rw [e9] at HNX
      clear e9 hi hok
      go_upto_region 4 with fail
      go_cut [96] from 11 to 96 (fun s96 wx => ∃ bad, s96 = .bool bad ∧ Hid (Ext wr wx) ∧ Hid (bad = false → PlTo ins (j + 1)))
      case first =>
        simp only [List.append_eq, List.cons_append, List.nil_append]
        by_cases hs1 : i.size < 1
        · have hs10 : decide (i.size < 1) = true := by simpa using hs1
          clear hs1
          go_big_quiet_o (fail)
          go_wp2
          go_meet
          exact ⟨true, rfl, hid ((Ext.refl wr).drewN _), hid (fun h => by cases h)⟩
        have hs1n : decide (i.size < 1) = false := by simpa using hs1
        by_cases hs2 : i.size > 6
        · have hs20 : decide (i.size > 6) = true := by simpa using hs2
          have hs21 : decide (6 < i.size) = true := by simpa using hs2
          clear hs2
          go_big_quiet_o (fail)
          go_wp2
          go_meet
          exact ⟨true, rfl, hid ((Ext.refl wr).drewN _), hid (fun h => by cases h)⟩
        have hs2n : decide (i.size > 6) = false := by simpa using hs2
        have hs2m : decide (6 < i.size) = false := by simpa using hs2
        have e1 : IntKind.i64.wrap ((i.addr : Int) + i.size) = (i.addr : Int) + i.size := IntWalk.i64_in _ (by omega)
        have e2 : IntKind.i64.wrap (i.addr : Int) = (i.addr : Int) := IntWalk.i64_in _ (by omega)
        by_cases hs3 : (i.addr : Int) + i.size > 4294967295
        · have hs30 : decide ((i.addr : Int) + i.size > 4294967295) = true := by simpa using hs3
          have hs31 : decide (4294967295 < (i.addr : Int) + i.size) = true := by simpa using hs3
          clear hs3
          go_big_quiet_o (fail)
          go_wp2
          go_meet
          exact ⟨true, rfl, hid ((Ext.refl wr).drewN _), hid (fun h => by cases h)⟩
        have hs3n : decide ((i.addr : Int) + i.size > 4294967295) = false := by simpa using hs3
        have hs3m : decide (4294967295 < (i.addr : Int) + i.size) = false := by simpa using hs3
        have e3 : IntKind.u32.wrap i.size = i.size := IntWalk.u32_in _ (by omega)
        have e4 : IntKind.u32.wrap ((i.addr : Int) + i.size) = (i.addr : Int) + i.size := IntWalk.u32_in _ (by omega)
        obtain ⟨nx, hnx⟩ : ∃ nx, nextI i = nx := ⟨_, rfl⟩
        rw [hnx] at HNX
        obtain ⟨neq, hneq⟩ : ∃ neq, ((nx : Int) != (i.addr : Int) + i.size) = neq := ⟨_, rfl⟩
        have HNE : Hid (neq = false → (nextI i : Int) = i.addr + i.size) := hid (fun e => by rw [hnx]; rw [e] at hneq; simpa using hneq)
        clear hnx
        by_cases hj0 : j = 0
        · have hj00 : decide ((j : Int) > 0) = false := decide_eq_false (by omega)
          have hj01 : decide (0 < (j : Int)) = false := decide_eq_false (by omega)
          have hj02 : decide (0 < j) = false := decide_eq_false (by omega)
          have HOV : Hid (∀ q p, j = q + 1 → ins[q]? = some p → (p.addr : Int) + p.size ≤ i.addr) := hid (fun q p h => by omega)
          obtain ⟨q, hq⟩ : ∃ q, q = j := ⟨_, rfl⟩
          obtain ⟨p, hp⟩ : ∃ p, p = i := ⟨_, rfl⟩
          have v0 : wr.cell? ⟨b, o + q * 9, none⟩ = some (.int .u32 p.addr) := by rw [hq, hp]; exact z0
          have v8 : wr.cell? ⟨b, o + q * 9 + 8, none⟩ = some (.int .i64 p.size) := by rw [hq, hp]; exact z8
          clear hj0 hq hp
          as_aux_lemma =>
            refine wp_region_held_drew (S := (fun w' => w'.cell? ⟨w.heap.size, 0, none⟩ = some (.slice (some ⟨b, o, none⟩) n c) ∧ (w'.cell? ⟨b, o + j * 9, none⟩ = some (.int .u32 i.addr) ∧ w'.cell? ⟨b, o + j * 9 + 1, none⟩ = some (.int .u32 i.imm) ∧ w'.cell? ⟨b, o + j * 9 + 2, none⟩ = some (.int .i64 i.op) ∧ w'.cell? ⟨b, o + j * 9 + 3, none⟩ = some (.int .i64 i.form) ∧ w'.cell? ⟨b, o + j * 9 + 4, none⟩ = some (.int .i64 i.width) ∧ w'.cell? ⟨b, o + j * 9 + 5, none⟩ = some (.int .i64 i.cc) ∧ w'.cell? ⟨b, o + j * 9 + 6, none⟩ = some (.int .i64 i.a) ∧ w'.cell? ⟨b, o + j * 9 + 7, none⟩ = some (.int .i64 i.b) ∧ w'.cell? ⟨b, o + j * 9 + 8, none⟩ = some (.int .i64 i.size)) ∧ w'.cell? ⟨b, o + q * 9, none⟩ = some (.int .u32 p.addr) ∧ w'.cell? ⟨b, o + q * 9 + 8, none⟩ = some (.int .i64 p.size))) (by kernel_rfl) ⟨q0, ⟨z0, z1, z2, z3, z4, z5, z6, z7, z8⟩, v0, v8⟩ (fun hSg1q0 => ?_)
            refine wpAnyH_takeL (i := 0) (v := ?g1qv0) rfl (by kernel_rfl) (by kernel_rfl) (by kernel_rfl) (fun _ _ _ h => h) (Or.inl ⟨by rfl, ?g1qy0⟩) (by assumption) ?g1qr0
            case g1qy0 => first | (intro w hSw; (try dsimp only at hSw); go_simp; done) | (intro w hSw; (try dsimp only at hSw); go_simp; with_reducible rfl)
            case' g1qr0 => try simp only [Act.put, List.setIfInBounds_toArray, List.set_cons_zero, List.set_cons_succ]
            refine wpAnyH_takeL (i := 1) (v := ?g1qv1) rfl (by kernel_rfl) (by kernel_rfl) (by kernel_rfl) (fun _ _ _ h => h) (Or.inl ⟨by rfl, ?g1qy1⟩) (by assumption) ?g1qr1
            case g1qy1 => first | (intro w hSw; (try dsimp only at hSw); go_simp; done) | (intro w hSw; (try dsimp only at hSw); go_simp; with_reducible rfl)
            case' g1qr1 => try simp only [Act.put, List.setIfInBounds_toArray, List.set_cons_zero, List.set_cons_succ]
            refine wpAnyH_takeL (i := 2) (v := ?g1qv2) rfl (by kernel_rfl) (by kernel_rfl) (by kernel_rfl) (fun _ _ _ h => h) (Or.inl ⟨by rfl, ?g1qy2⟩) (by assumption) ?g1qr2
            case g1qy2 => first | (intro w hSw; (try dsimp only at hSw); go_simp; done) | (intro w hSw; (try dsimp only at hSw); go_simp; with_reducible rfl)
            case' g1qr2 => try simp only [Act.put, List.setIfInBounds_toArray, List.set_cons_zero, List.set_cons_succ]
            refine wpAnyH_takeL (i := 3) (v := ?g1qv3) rfl (by kernel_rfl) (by kernel_rfl) (by kernel_rfl) (fun _ _ _ h => h) (Or.inl ⟨by rfl, ?g1qy3⟩) (by assumption) ?g1qr3
            case g1qy3 => first | (intro w hSw; (try dsimp only at hSw); go_simp; done) | (intro w hSw; (try dsimp only at hSw); go_simp; with_reducible rfl)
            case' g1qr3 => try simp only [Act.put, List.setIfInBounds_toArray, List.set_cons_zero, List.set_cons_succ]
            refine wpAnyH_takeL (i := 4) (v := ?g1qv4) rfl (by kernel_rfl) (by kernel_rfl) (by kernel_rfl) (fun _ _ _ h => h) (Or.inl ⟨by rfl, ?g1qy4⟩) (by assumption) ?g1qr4
            case g1qy4 => first | (intro w hSw; (try dsimp only at hSw); go_simp; done) | (intro w hSw; (try dsimp only at hSw); go_simp; with_reducible rfl)
            case' g1qr4 => try simp only [Act.put, List.setIfInBounds_toArray, List.set_cons_zero, List.set_cons_succ]
            refine wpAnyH_takeL (i := 5) (v := ?g1qv5) rfl (by kernel_rfl) (by kernel_rfl) (by kernel_rfl) (fun _ _ _ h => h) (Or.inl ⟨by rfl, ?g1qy5⟩) (by assumption) ?g1qr5
            case g1qy5 => first | (intro w hSw; (try dsimp only at hSw); go_simp; done) | (intro w hSw; (try dsimp only at hSw); go_simp; with_reducible rfl)
            case' g1qr5 => try simp only [Act.put, List.setIfInBounds_toArray, List.set_cons_zero, List.set_cons_succ]
            refine wpAnyH_takeL (i := 6) (v := ?g1qv6) rfl (by kernel_rfl) (by kernel_rfl) (by kernel_rfl) (fun _ _ _ h => h) (Or.inl ⟨by rfl, ?g1qy6⟩) (by assumption) ?g1qr6
            case g1qy6 => first | (intro w hSw; (try dsimp only at hSw); go_simp; done) | (intro w hSw; (try dsimp only at hSw); go_simp; with_reducible rfl)
            case' g1qr6 => try simp only [Act.put, List.setIfInBounds_toArray, List.set_cons_zero, List.set_cons_succ]
            refine wpAnyH_takeL (i := 7) (v := ?g1qv7) rfl (by kernel_rfl) (by kernel_rfl) (by kernel_rfl) (fun _ _ _ h => h) (Or.inl ⟨by rfl, ?g1qy7⟩) (by assumption) ?g1qr7
            case g1qy7 => first | (intro w hSw; (try dsimp only at hSw); go_simp; done) | (intro w hSw; (try dsimp only at hSw); go_simp; with_reducible rfl)
            case' g1qr7 => try simp only [Act.put, List.setIfInBounds_toArray, List.set_cons_zero, List.set_cons_succ]
            refine wpAnyH_takeL (i := 8) (v := ?g1qv8) rfl (by kernel_rfl) (by kernel_rfl) (by kernel_rfl) (fun _ _ _ h => h) (Or.inl ⟨by rfl, ?g1qy8⟩) (by assumption) ?g1qr8
            case g1qy8 => first | (intro w hSw; (try dsimp only at hSw); go_simp; done) | (intro w hSw; (try dsimp only at hSw); go_simp; with_reducible rfl)
            case' g1qr8 => try simp only [Act.put, List.setIfInBounds_toArray, List.set_cons_zero, List.set_cons_succ]
            refine wpAnyH_takeL (i := 9) (v := ?g1qv9) rfl (by kernel_rfl) (by kernel_rfl) (by kernel_rfl) (fun _ _ _ h => h) (Or.inl ⟨by rfl, ?g1qy9⟩) (by assumption) ?g1qr9
            case g1qy9 => first | (intro w hSw; (try dsimp only at hSw); go_simp; done) | (intro w hSw; (try dsimp only at hSw); go_simp; with_reducible rfl)
            case' g1qr9 => try simp only [Act.put, List.setIfInBounds_toArray, List.set_cons_zero, List.set_cons_succ]
            refine wpAnyH_takeL (i := 10) (v := ?g1qv10) rfl (by kernel_rfl) (by kernel_rfl) (by kernel_rfl) (fun _ _ _ h => h) (Or.inl ⟨by rfl, ?g1qy10⟩) (by assumption) ?g1qr10
            case g1qy10 => first | (intro w hSw; (try dsimp only at hSw); go_simp; done) | (intro w hSw; (try dsimp only at hSw); go_simp; with_reducible rfl)
            case' g1qr10 => try simp only [Act.put, List.setIfInBounds_toArray, List.set_cons_zero, List.set_cons_succ]
            refine wpAnyH_takeL (i := 11) (v := ?g1qv11) rfl (by kernel_rfl) (by kernel_rfl) (by kernel_rfl) (fun _ _ _ h => h) (Or.inl ⟨by rfl, ?g1qy11⟩) (by assumption) ?g1qr11
            case g1qy11 => first | (intro w hSw; (try dsimp only at hSw); go_simp; done) | (intro w hSw; (try dsimp only at hSw); go_simp; with_reducible rfl)
            case' g1qr11 => try simp only [Act.put, List.setIfInBounds_toArray, List.set_cons_zero, List.set_cons_succ]
            refine wpAnyH_takeL (i := 12) (v := ?g1qv12) rfl (by kernel_rfl) (by kernel_rfl) (by kernel_rfl) (fun _ _ _ h => h) (Or.inl ⟨by rfl, ?g1qy12⟩) (by assumption) ?g1qr12
            case g1qy12 => first | (intro w hSw; (try dsimp only at hSw); go_simp; done) | (intro w hSw; (try dsimp only at hSw); go_simp; with_reducible rfl)
            case' g1qr12 => try simp only [Act.put, List.setIfInBounds_toArray, List.set_cons_zero, List.set_cons_succ]
            refine wpAnyH_takeL (i := 13) (v := ?g1qv13) rfl (by kernel_rfl) (by kernel_rfl) (by kernel_rfl) (fun _ _ _ h => h) (Or.inl ⟨by rfl, ?g1qy13⟩) (by assumption) ?g1qr13
            case g1qy13 => first | (intro w hSw; (try dsimp only at hSw); go_simp; done) | (intro w hSw; (try dsimp only at hSw); go_simp; with_reducible rfl)
            case' g1qr13 => try simp only [Act.put, List.setIfInBounds_toArray, List.set_cons_zero, List.set_cons_succ]
            refine wpAnyH_takeL (i := 14) (v := ?g1qv14) rfl (by kernel_rfl) (by kernel_rfl) (by kernel_rfl) (fun _ _ _ h => h) (Or.inl ⟨by rfl, ?g1qy14⟩) (by assumption) ?g1qr14
            case g1qy14 => first | (intro w hSw; (try dsimp only at hSw); go_simp; done) | (intro w hSw; (try dsimp only at hSw); go_simp; with_reducible rfl)
            case' g1qr14 => try simp only [Act.put, List.setIfInBounds_toArray, List.set_cons_zero, List.set_cons_succ]
            refine wpAnyH_takeL (i := 15) (v := ?g1qv15) rfl (by kernel_rfl) (by kernel_rfl) (by kernel_rfl) (fun _ _ _ h => h) (Or.inl ⟨by rfl, ?g1qy15⟩) (by assumption) ?g1qr15
            case g1qy15 => first | (intro w hSw; (try dsimp only at hSw); go_simp; done) | (intro w hSw; (try dsimp only at hSw); go_simp; with_reducible rfl)
            case' g1qr15 => try simp only [Act.put, List.setIfInBounds_toArray, List.set_cons_zero, List.set_cons_succ]
            refine wpAnyH_takeL (i := 16) (v := ?g1qv16) rfl (by kernel_rfl) (by kernel_rfl) (by kernel_rfl) (fun _ _ _ h => h) (Or.inl ⟨by rfl, ?g1qy16⟩) (by assumption) ?g1qr16
            case g1qy16 => first | (intro w hSw; (try dsimp only at hSw); go_simp; done) | (intro w hSw; (try dsimp only at hSw); go_simp; with_reducible rfl)
            case' g1qr16 => try simp only [Act.put, List.setIfInBounds_toArray, List.set_cons_zero, List.set_cons_succ]
            refine wpAnyH_takeL (i := 17) (v := ?g1qv17) rfl (by kernel_rfl) (by kernel_rfl) (by kernel_rfl) (fun _ _ _ h => h) (Or.inl ⟨by rfl, ?g1qy17⟩) (by assumption) ?g1qr17
            case g1qy17 => first | (intro w hSw; (try dsimp only at hSw); go_simp; done) | (intro w hSw; (try dsimp only at hSw); go_simp; with_reducible rfl)
            case' g1qr17 => try simp only [Act.put, List.setIfInBounds_toArray, List.set_cons_zero, List.set_cons_succ]
            refine wpAnyH_takeL (i := 18) (v := ?g1qv18) rfl (by kernel_rfl) (by kernel_rfl) (by kernel_rfl) (fun _ _ _ h => h) (Or.inl ⟨by rfl, ?g1qy18⟩) (by assumption) ?g1qr18
            case g1qy18 => first | (intro w hSw; (try dsimp only at hSw); go_simp; done) | (intro w hSw; (try dsimp only at hSw); go_simp; with_reducible rfl)
            case' g1qr18 => try simp only [Act.put, List.setIfInBounds_toArray, List.set_cons_zero, List.set_cons_succ]
            refine wpAnyH_takeL (i := 19) (v := ?g1qv19) rfl (by kernel_rfl) (by kernel_rfl) (by kernel_rfl) (fun _ _ _ h => h) (Or.inl ⟨by rfl, ?g1qy19⟩) (by assumption) ?g1qr19
            case g1qy19 => first | (intro w hSw; (try dsimp only at hSw); go_simp; done) | (intro w hSw; (try dsimp only at hSw); go_simp; with_reducible rfl)
            case' g1qr19 => try simp only [Act.put, List.setIfInBounds_toArray, List.set_cons_zero, List.set_cons_succ]
            refine wpAnyH_takeL (i := 20) (v := ?g1qv20) rfl (by kernel_rfl) (by kernel_rfl) (by kernel_rfl) (fun _ _ _ h => h) (Or.inl ⟨by rfl, ?g1qy20⟩) (by assumption) ?g1qr20
            case g1qy20 => first | (intro w hSw; (try dsimp only at hSw); go_simp; done) | (intro w hSw; (try dsimp only at hSw); go_simp; with_reducible rfl)
            case' g1qr20 => try simp only [Act.put, List.setIfInBounds_toArray, List.set_cons_zero, List.set_cons_succ]
            refine wpAnyH_takeL (i := 21) (v := ?g1qv21) rfl (by kernel_rfl) (by kernel_rfl) (by kernel_rfl) (fun _ _ _ h => h) (Or.inl ⟨by rfl, ?g1qy21⟩) (by assumption) ?g1qr21
            case g1qy21 => first | (intro w hSw; (try dsimp only at hSw); go_simp; done) | (intro w hSw; (try dsimp only at hSw); go_simp; with_reducible rfl)
            case' g1qr21 => try simp only [Act.put, List.setIfInBounds_toArray, List.set_cons_zero, List.set_cons_succ]
            refine wpAnyH_takeL (i := 22) (v := ?g1qv22) rfl (by kernel_rfl) (by kernel_rfl) (by kernel_rfl) (fun _ _ _ h => h) (Or.inl ⟨by rfl, ?g1qy22⟩) (by assumption) ?g1qr22
            case g1qy22 => first | (intro w hSw; (try dsimp only at hSw); go_simp; done) | (intro w hSw; (try dsimp only at hSw); go_simp; with_reducible rfl)
            case' g1qr22 => try simp only [Act.put, List.setIfInBounds_toArray, List.set_cons_zero, List.set_cons_succ]
            refine wpAnyH_takeL (i := 23) (v := ?g1qv23) rfl (by kernel_rfl) (by kernel_rfl) (by kernel_rfl) (fun _ _ _ h => h) (Or.inl ⟨by rfl, ?g1qy23⟩) (by assumption) ?g1qr23
            case g1qy23 => first | (intro w hSw; (try dsimp only at hSw); go_simp; done) | (intro w hSw; (try dsimp only at hSw); go_simp; with_reducible rfl)
            case' g1qr23 => try simp only [Act.put, List.setIfInBounds_toArray, List.set_cons_zero, List.set_cons_succ]
            refine wpAnyH_takeL (i := 24) (v := ?g1qv24) rfl (by kernel_rfl) (by kernel_rfl) (by kernel_rfl) (fun _ _ _ h => h) (Or.inl ⟨by rfl, ?g1qy24⟩) (by assumption) ?g1qr24
            case g1qy24 => first | (intro w hSw; (try dsimp only at hSw); go_simp; done) | (intro w hSw; (try dsimp only at hSw); go_simp; with_reducible rfl)
            case' g1qr24 => try simp only [Act.put, List.setIfInBounds_toArray, List.set_cons_zero, List.set_cons_succ]
            refine wpAnyH_takeL (i := 25) (v := ?g1qv25) rfl (by kernel_rfl) (by kernel_rfl) (by kernel_rfl) (fun _ _ _ h => h) (Or.inl ⟨by rfl, ?g1qy25⟩) (by assumption) ?g1qr25
            case g1qy25 => first | (intro w hSw; (try dsimp only at hSw); go_simp; done) | (intro w hSw; (try dsimp only at hSw); go_simp; with_reducible rfl)
            case' g1qr25 => try simp only [Act.put, List.setIfInBounds_toArray, List.set_cons_zero, List.set_cons_succ]
            refine wpAnyH_takeL (i := 26) (v := ?g1qv26) rfl (by kernel_rfl) (by kernel_rfl) (by kernel_rfl) (fun _ _ _ h => h) (Or.inl ⟨by rfl, ?g1qy26⟩) (by assumption) ?g1qr26
            case g1qy26 => first | (intro w hSw; (try dsimp only at hSw); go_simp; done) | (intro w hSw; (try dsimp only at hSw); go_simp; with_reducible rfl)
            case' g1qr26 => try simp only [Act.put, List.setIfInBounds_toArray, List.set_cons_zero, List.set_cons_succ]
            refine wpAnyH_takeL (i := 27) (v := ?g1qv27) rfl (by kernel_rfl) (by kernel_rfl) (by kernel_rfl) (fun _ _ _ h => h) (Or.inl ⟨by rfl, ?g1qy27⟩) (by assumption) ?g1qr27
            case g1qy27 => first | (intro w hSw; (try dsimp only at hSw); go_simp; done) | (intro w hSw; (try dsimp only at hSw); go_simp; with_reducible rfl)
            case' g1qr27 => try simp only [Act.put, List.setIfInBounds_toArray, List.set_cons_zero, List.set_cons_succ]
            refine wpAnyH_takeL (i := 28) (v := ?g1qv28) rfl (by kernel_rfl) (by kernel_rfl) (by kernel_rfl) (fun _ _ _ h => h) (Or.inl ⟨by rfl, ?g1qy28⟩) (by assumption) ?g1qr28
            case g1qy28 => first | (intro w hSw; (try dsimp only at hSw); go_simp; done) | (intro w hSw; (try dsimp only at hSw); go_simp; with_reducible rfl)
            case' g1qr28 => try simp only [Act.put, List.setIfInBounds_toArray, List.set_cons_zero, List.set_cons_succ]
            refine wpAnyH_takeL (i := 29) (v := ?g1qv29) rfl (by kernel_rfl) (by kernel_rfl) (by kernel_rfl) (fun _ _ _ h => h) (Or.inl ⟨by rfl, ?g1qy29⟩) (by assumption) ?g1qr29
            case g1qy29 => first | (intro w hSw; (try dsimp only at hSw); go_simp; done) | (intro w hSw; (try dsimp only at hSw); go_simp; with_reducible rfl)
            case' g1qr29 => try simp only [Act.put, List.setIfInBounds_toArray, List.set_cons_zero, List.set_cons_succ]
            refine wpAnyH_takeL (i := 30) (v := ?g1qv30) rfl (by kernel_rfl) (by kernel_rfl) (by kernel_rfl) (fun _ _ _ h => h) (Or.inl ⟨by rfl, ?g1qy30⟩) (by assumption) ?g1qr30
            case g1qy30 => first | (intro w hSw; (try dsimp only at hSw); go_simp; done) | (intro w hSw; (try dsimp only at hSw); go_simp; with_reducible rfl)
            case' g1qr30 => try simp only [Act.put, List.setIfInBounds_toArray, List.set_cons_zero, List.set_cons_succ]
            refine wpAnyH_takeL (i := 31) (v := ?g1qv31) rfl (by kernel_rfl) (by kernel_rfl) (by kernel_rfl) (fun _ _ _ h => h) (Or.inl ⟨by rfl, ?g1qy31⟩) (by assumption) ?g1qr31
            case g1qy31 => first | (intro w hSw; (try dsimp only at hSw); go_simp; done) | (intro w hSw; (try dsimp only at hSw); go_simp; with_reducible rfl)
            case' g1qr31 => try simp only [Act.put, List.setIfInBounds_toArray, List.set_cons_zero, List.set_cons_succ]
            refine wpAnyH_takeL (i := 32) (v := ?g1qv32) rfl (by kernel_rfl) (by kernel_rfl) (by kernel_rfl) (fun _ _ _ h => h) (Or.inl ⟨by rfl, ?g1qy32⟩) (by assumption) ?g1qr32
            case g1qy32 => first | (intro w hSw; (try dsimp only at hSw); go_simp; done) | (intro w hSw; (try dsimp only at hSw); go_simp; with_reducible rfl)
            case' g1qr32 => try simp only [Act.put, List.setIfInBounds_toArray, List.set_cons_zero, List.set_cons_succ]
            refine wpAnyH_takeL (i := 33) (v := ?g1qv33) rfl (by kernel_rfl) (by kernel_rfl) (by kernel_rfl) (fun _ _ _ h => h) (Or.inl ⟨by rfl, ?g1qy33⟩) (by assumption) ?g1qr33
            case g1qy33 => first | (intro w hSw; (try dsimp only at hSw); go_simp; done) | (intro w hSw; (try dsimp only at hSw); go_simp; with_reducible rfl)
            case' g1qr33 => try simp only [Act.put, List.setIfInBounds_toArray, List.set_cons_zero, List.set_cons_succ]
            refine wpAnyH_takeL (i := 34) (v := ?g1qv34) rfl (by kernel_rfl) (by kernel_rfl) (by kernel_rfl) (fun _ _ _ h => h) (Or.inl ⟨by rfl, ?g1qy34⟩) (by assumption) ?g1qr34
            case g1qy34 => first | (intro w hSw; (try dsimp only at hSw); go_simp; done) | (intro w hSw; (try dsimp only at hSw); go_simp; with_reducible rfl)
            case' g1qr34 => try simp only [Act.put, List.setIfInBounds_toArray, List.set_cons_zero, List.set_cons_succ]
            refine wpAnyH_takeL (i := 35) (v := ?g1qv35) rfl (by kernel_rfl) (by kernel_rfl) (by kernel_rfl) (fun _ _ _ h => h) (Or.inl ⟨by rfl, ?g1qy35⟩) (by assumption) ?g1qr35
            case g1qy35 => first | (intro w hSw; (try dsimp only at hSw); go_simp; done) | (intro w hSw; (try dsimp only at hSw); go_simp; with_reducible rfl)
            case' g1qr35 => try simp only [Act.put, List.setIfInBounds_toArray, List.set_cons_zero, List.set_cons_succ]
            refine wpAnyH_takeL (i := 36) (v := ?g1qv36) rfl (by kernel_rfl) (by kernel_rfl) (by kernel_rfl) (fun _ _ _ h => h) (Or.inl ⟨by rfl, ?g1qy36⟩) (by assumption) ?g1qr36
            case g1qy36 => first | (intro w hSw; (try dsimp only at hSw); go_simp; done) | (intro w hSw; (try dsimp only at hSw); go_simp; with_reducible rfl)
            case' g1qr36 => try simp only [Act.put, List.setIfInBounds_toArray, List.set_cons_zero, List.set_cons_succ]
            refine wpAnyH_takeL (i := 37) (v := undef) rfl (by kernel_rfl) (by kernel_rfl) (by kernel_rfl) (fun _ _ _ h => h) (Or.inr ⟨by rfl, rfl⟩) (by assumption) ?g1qr37
            case' g1qr37 => try simp only [Act.put, List.setIfInBounds_toArray, List.set_cons_zero, List.set_cons_succ]
            refine wpAnyH_takeL (i := 38) (v := undef) rfl (by kernel_rfl) (by kernel_rfl) (by kernel_rfl) (fun _ _ _ h => h) (Or.inr ⟨by rfl, rfl⟩) (by assumption) ?g1qr38
            case' g1qr38 => try simp only [Act.put, List.setIfInBounds_toArray, List.set_cons_zero, List.set_cons_succ]
            refine wpAnyH_takeL (i := 39) (v := undef) rfl (by kernel_rfl) (by kernel_rfl) (by kernel_rfl) (fun _ _ _ h => h) (Or.inr ⟨by rfl, rfl⟩) (by assumption) ?g1qr39
            case' g1qr39 => try simp only [Act.put, List.setIfInBounds_toArray, List.set_cons_zero, List.set_cons_succ]
            refine wpAnyH_takeL (i := 40) (v := undef) rfl (by kernel_rfl) (by kernel_rfl) (by kernel_rfl) (fun _ _ _ h => h) (Or.inr ⟨by rfl, rfl⟩) (by assumption) ?g1qr40
            case' g1qr40 => try simp only [Act.put, List.setIfInBounds_toArray, List.set_cons_zero, List.set_cons_succ]
            refine wpAnyH_takeL (i := 41) (v := undef) rfl (by kernel_rfl) (by kernel_rfl) (by kernel_rfl) (fun _ _ _ h => h) (Or.inr ⟨by rfl, rfl⟩) (by assumption) ?g1qr41
            case' g1qr41 => try simp only [Act.put, List.setIfInBounds_toArray, List.set_cons_zero, List.set_cons_succ]
            refine wpAnyH_takeL (i := 42) (v := undef) rfl (by kernel_rfl) (by kernel_rfl) (by kernel_rfl) (fun _ _ _ h => h) (Or.inr ⟨by rfl, rfl⟩) (by assumption) ?g1qr42
            case' g1qr42 => try simp only [Act.put, List.setIfInBounds_toArray, List.set_cons_zero, List.set_cons_succ]
            refine wpAnyH_takeL (i := 43) (v := undef) rfl (by kernel_rfl) (by kernel_rfl) (by kernel_rfl) (fun _ _ _ h => h) (Or.inr ⟨by rfl, rfl⟩) (by assumption) ?g1qr43
            case' g1qr43 => try simp only [Act.put, List.setIfInBounds_toArray, List.set_cons_zero, List.set_cons_succ]
            refine wpAnyH_takeL (i := 44) (v := undef) rfl (by kernel_rfl) (by kernel_rfl) (by kernel_rfl) (fun _ _ _ h => h) (Or.inr ⟨by rfl, rfl⟩) (by assumption) ?g1qr44
            case' g1qr44 => try simp only [Act.put, List.setIfInBounds_toArray, List.set_cons_zero, List.set_cons_succ]
            refine wpAnyH_takeL (i := 45) (v := undef) rfl (by kernel_rfl) (by kernel_rfl) (by kernel_rfl) (fun _ _ _ h => h) (Or.inr ⟨by rfl, rfl⟩) (by assumption) ?g1qr45
            case' g1qr45 => try simp only [Act.put, List.setIfInBounds_toArray, List.set_cons_zero, List.set_cons_succ]
            refine wpAnyH_takeL (i := 46) (v := undef) rfl (by kernel_rfl) (by kernel_rfl) (by kernel_rfl) (fun _ _ _ h => h) (Or.inr ⟨by rfl, rfl⟩) (by assumption) ?g1qr46
            case' g1qr46 => try simp only [Act.put, List.setIfInBounds_toArray, List.set_cons_zero, List.set_cons_succ]
            refine wpAnyH_takeL (i := 47) (v := undef) rfl (by kernel_rfl) (by kernel_rfl) (by kernel_rfl) (fun _ _ _ h => h) (Or.inr ⟨by rfl, rfl⟩) (by assumption) ?g1qr47
            case' g1qr47 => try simp only [Act.put, List.setIfInBounds_toArray, List.set_cons_zero, List.set_cons_succ]
            refine wpAnyH_takeL (i := 48) (v := undef) rfl (by kernel_rfl) (by kernel_rfl) (by kernel_rfl) (fun _ _ _ h => h) (Or.inr ⟨by rfl, rfl⟩) (by assumption) ?g1qr48
            case' g1qr48 => try simp only [Act.put, List.setIfInBounds_toArray, List.set_cons_zero, List.set_cons_succ]
            refine wpAnyH_takeL (i := 49) (v := undef) rfl (by kernel_rfl) (by kernel_rfl) (by kernel_rfl) (fun _ _ _ h => h) (Or.inr ⟨by rfl, rfl⟩) (by assumption) ?g1qr49
            case' g1qr49 => try simp only [Act.put, List.setIfInBounds_toArray, List.set_cons_zero, List.set_cons_succ]
            refine wpAnyH_takeL (i := 50) (v := undef) rfl (by kernel_rfl) (by kernel_rfl) (by kernel_rfl) (fun _ _ _ h => h) (Or.inr ⟨by rfl, rfl⟩) (by assumption) ?g1qr50
            case' g1qr50 => try simp only [Act.put, List.setIfInBounds_toArray, List.set_cons_zero, List.set_cons_succ]
            refine wpAnyH_takeL (i := 51) (v := undef) rfl (by kernel_rfl) (by kernel_rfl) (by kernel_rfl) (fun _ _ _ h => h) (Or.inr ⟨by rfl, rfl⟩) (by assumption) ?g1qr51
            case' g1qr51 => try simp only [Act.put, List.setIfInBounds_toArray, List.set_cons_zero, List.set_cons_succ]
            refine wpAnyH_takeL (i := 52) (v := undef) rfl (by kernel_rfl) (by kernel_rfl) (by kernel_rfl) (fun _ _ _ h => h) (Or.inr ⟨by rfl, rfl⟩) (by assumption) ?g1qr52
            case' g1qr52 => try simp only [Act.put, List.setIfInBounds_toArray, List.set_cons_zero, List.set_cons_succ]
            refine wpAnyH_takeL (i := 53) (v := undef) rfl (by kernel_rfl) (by kernel_rfl) (by kernel_rfl) (fun _ _ _ h => h) (Or.inr ⟨by rfl, rfl⟩) (by assumption) ?g1qr53
            case' g1qr53 => try simp only [Act.put, List.setIfInBounds_toArray, List.set_cons_zero, List.set_cons_succ]
            refine wpAnyH_takeL (i := 54) (v := undef) rfl (by kernel_rfl) (by kernel_rfl) (by kernel_rfl) (fun _ _ _ h => h) (Or.inr ⟨by rfl, rfl⟩) (by assumption) ?g1qr54
            case' g1qr54 => try simp only [Act.put, List.setIfInBounds_toArray, List.set_cons_zero, List.set_cons_succ]
            refine wpAnyH_takeL (i := 55) (v := undef) rfl (by kernel_rfl) (by kernel_rfl) (by kernel_rfl) (fun _ _ _ h => h) (Or.inr ⟨by rfl, rfl⟩) (by assumption) ?g1qr55
            case' g1qr55 => try simp only [Act.put, List.setIfInBounds_toArray, List.set_cons_zero, List.set_cons_succ]
            refine wpAnyH_takeL (i := 56) (v := undef) rfl (by kernel_rfl) (by kernel_rfl) (by kernel_rfl) (fun _ _ _ h => h) (Or.inr ⟨by rfl, rfl⟩) (by assumption) ?g1qr56
            case' g1qr56 => try simp only [Act.put, List.setIfInBounds_toArray, List.set_cons_zero, List.set_cons_succ]
            refine wpAnyH_takeL (i := 57) (v := undef) rfl (by kernel_rfl) (by kernel_rfl) (by kernel_rfl) (fun _ _ _ h => h) (Or.inr ⟨by rfl, rfl⟩) (by assumption) ?g1qr57
            case' g1qr57 => try simp only [Act.put, List.setIfInBounds_toArray, List.set_cons_zero, List.set_cons_succ]
            refine wpAnyH_takeL (i := 58) (v := undef) rfl (by kernel_rfl) (by kernel_rfl) (by kernel_rfl) (fun _ _ _ h => h) (Or.inr ⟨by rfl, rfl⟩) (by assumption) ?g1qr58
            case' g1qr58 => try simp only [Act.put, List.setIfInBounds_toArray, List.set_cons_zero, List.set_cons_succ]
            refine wpAnyH_takeL (i := 59) (v := undef) rfl (by kernel_rfl) (by kernel_rfl) (by kernel_rfl) (fun _ _ _ h => h) (Or.inr ⟨by rfl, rfl⟩) (by assumption) ?g1qr59
            case' g1qr59 => try simp only [Act.put, List.setIfInBounds_toArray, List.set_cons_zero, List.set_cons_succ]
            refine wpAnyH_takeL (i := 60) (v := undef) rfl (by kernel_rfl) (by kernel_rfl) (by kernel_rfl) (fun _ _ _ h => h) (Or.inr ⟨by rfl, rfl⟩) (by assumption) ?g1qr60
            case' g1qr60 => try simp only [Act.put, List.setIfInBounds_toArray, List.set_cons_zero, List.set_cons_succ]
            refine wpAnyH_takeL (i := 61) (v := ?g1qv61) rfl (by kernel_rfl) (by kernel_rfl) (by kernel_rfl) (fun _ _ _ h => h) (Or.inl ⟨by rfl, ?g1qy61⟩) (by assumption) ?g1qr61
            case g1qy61 => first | (intro w hSw; (try dsimp only at hSw); go_simp; done) | (intro w hSw; (try dsimp only at hSw); go_simp; with_reducible rfl)
            case' g1qr61 => try simp only [Act.put, List.setIfInBounds_toArray, List.set_cons_zero, List.set_cons_succ]
            refine wpAnyH_takeL (i := 62) (v := ?g1qv62) rfl (by kernel_rfl) (by kernel_rfl) (by kernel_rfl) (fun _ _ _ h => h) (Or.inl ⟨by rfl, ?g1qy62⟩) (by assumption) ?g1qr62
            case g1qy62 => first | (intro w hSw; (try dsimp only at hSw); go_simp; done) | (intro w hSw; (try dsimp only at hSw); go_simp; with_reducible rfl)
            case' g1qr62 => try simp only [Act.put, List.setIfInBounds_toArray, List.set_cons_zero, List.set_cons_succ]
            refine wpAnyH_takeL (i := 63) (v := ?g1qv63) rfl (by kernel_rfl) (by kernel_rfl) (by kernel_rfl) (fun _ _ _ h => h) (Or.inl ⟨by rfl, ?g1qy63⟩) (by assumption) ?g1qr63
            case g1qy63 => first | (intro w hSw; (try dsimp only at hSw); go_simp; done) | (intro w hSw; (try dsimp only at hSw); go_simp; with_reducible rfl)
            case' g1qr63 => try simp only [Act.put, List.setIfInBounds_toArray, List.set_cons_zero, List.set_cons_succ]
            refine wpAnyH_takeL (i := 64) (v := ?g1qv64) rfl (by kernel_rfl) (by kernel_rfl) (by kernel_rfl) (fun _ _ _ h => h) (Or.inl ⟨by rfl, ?g1qy64⟩) (by assumption) ?g1qr64
            case g1qy64 => first | (intro w hSw; (try dsimp only at hSw); go_simp; done) | (intro w hSw; (try dsimp only at hSw); go_simp; with_reducible rfl)
            case' g1qr64 => try simp only [Act.put, List.setIfInBounds_toArray, List.set_cons_zero, List.set_cons_succ]
            refine wpAnyH_takeL (i := 65) (v := ?g1qv65) rfl (by kernel_rfl) (by kernel_rfl) (by kernel_rfl) (fun _ _ _ h => h) (Or.inl ⟨by rfl, ?g1qy65⟩) (by assumption) ?g1qr65
            case g1qy65 => first | (intro w hSw; (try dsimp only at hSw); go_simp; done) | (intro w hSw; (try dsimp only at hSw); go_simp; with_reducible rfl)
            case' g1qr65 => try simp only [Act.put, List.setIfInBounds_toArray, List.set_cons_zero, List.set_cons_succ]
            refine wpAnyH_takeL (i := 66) (v := ?g1qv66) rfl (by kernel_rfl) (by kernel_rfl) (by kernel_rfl) (fun _ _ _ h => h) (Or.inl ⟨by rfl, ?g1qy66⟩) (by assumption) ?g1qr66
            case g1qy66 => first | (intro w hSw; (try dsimp only at hSw); go_simp; done) | (intro w hSw; (try dsimp only at hSw); go_simp; with_reducible rfl)
            case' g1qr66 => try simp only [Act.put, List.setIfInBounds_toArray, List.set_cons_zero, List.set_cons_succ]
            refine wpAnyH_takeL (i := 67) (v := ?g1qv67) rfl (by kernel_rfl) (by kernel_rfl) (by kernel_rfl) (fun _ _ _ h => h) (Or.inl ⟨by rfl, ?g1qy67⟩) (by assumption) ?g1qr67
            case g1qy67 => first | (intro w hSw; (try dsimp only at hSw); go_simp; done) | (intro w hSw; (try dsimp only at hSw); go_simp; with_reducible rfl)
            case' g1qr67 => try simp only [Act.put, List.setIfInBounds_toArray, List.set_cons_zero, List.set_cons_succ]
            refine wpAnyH_takeL (i := 68) (v := ?g1qv68) rfl (by kernel_rfl) (by kernel_rfl) (by kernel_rfl) (fun _ _ _ h => h) (Or.inl ⟨by rfl, ?g1qy68⟩) (by assumption) ?g1qr68
            case g1qy68 => first | (intro w hSw; (try dsimp only at hSw); go_simp; done) | (intro w hSw; (try dsimp only at hSw); go_simp; with_reducible rfl)
            case' g1qr68 => try simp only [Act.put, List.setIfInBounds_toArray, List.set_cons_zero, List.set_cons_succ]
            refine wpAnyH_takeL (i := 70) (v := ?g1qv70) rfl (by kernel_rfl) (by kernel_rfl) (by kernel_rfl) (fun _ _ _ h => h) (Or.inl ⟨by rfl, ?g1qy70⟩) (by assumption) ?g1qr70
            case g1qy70 => first | (intro w hSw; (try dsimp only at hSw); go_simp; done) | (intro w hSw; (try dsimp only at hSw); go_simp; with_reducible rfl)
            case' g1qr70 => try simp only [Act.put, List.setIfInBounds_toArray, List.set_cons_zero, List.set_cons_succ]
            refine wpAnyH_takeL (i := 71) (v := ?g1qv71) rfl (by kernel_rfl) (by kernel_rfl) (by kernel_rfl) (fun _ _ _ h => h) (Or.inl ⟨by rfl, ?g1qy71⟩) (by assumption) ?g1qr71
            case g1qy71 => first | (intro w hSw; (try dsimp only at hSw); go_simp; done) | (intro w hSw; (try dsimp only at hSw); go_simp; with_reducible rfl)
            case' g1qr71 => try simp only [Act.put, List.setIfInBounds_toArray, List.set_cons_zero, List.set_cons_succ]
            refine wpAnyH_takeL (i := 72) (v := ?g1qv72) rfl (by kernel_rfl) (by kernel_rfl) (by kernel_rfl) (fun _ _ _ h => h) (Or.inl ⟨by rfl, ?g1qy72⟩) (by assumption) ?g1qr72
            case g1qy72 => first | (intro w hSw; (try dsimp only at hSw); go_simp; done) | (intro w hSw; (try dsimp only at hSw); go_simp; with_reducible rfl)
            case' g1qr72 => try simp only [Act.put, List.setIfInBounds_toArray, List.set_cons_zero, List.set_cons_succ]
            refine wpAnyH_takeL (i := 73) (v := ?g1qv73) rfl (by kernel_rfl) (by kernel_rfl) (by kernel_rfl) (fun _ _ _ h => h) (Or.inl ⟨by rfl, ?g1qy73⟩) (by assumption) ?g1qr73
            case g1qy73 => first | (intro w hSw; (try dsimp only at hSw); go_simp; done) | (intro w hSw; (try dsimp only at hSw); go_simp; with_reducible rfl)
            case' g1qr73 => try simp only [Act.put, List.setIfInBounds_toArray, List.set_cons_zero, List.set_cons_succ]
            refine wpAnyH_takeL (i := 74) (v := ?g1qv74) rfl (by kernel_rfl) (by kernel_rfl) (by kernel_rfl) (fun _ _ _ h => h) (Or.inl ⟨by rfl, ?g1qy74⟩) (by assumption) ?g1qr74
            case g1qy74 => first | (intro w hSw; (try dsimp only at hSw); go_simp; done) | (intro w hSw; (try dsimp only at hSw); go_simp; with_reducible rfl)
            case' g1qr74 => try simp only [Act.put, List.setIfInBounds_toArray, List.set_cons_zero, List.set_cons_succ]
            refine wpAnyH_takeL (i := 75) (v := ?g1qv75) rfl (by kernel_rfl) (by kernel_rfl) (by kernel_rfl) (fun _ _ _ h => h) (Or.inl ⟨by rfl, ?g1qy75⟩) (by assumption) ?g1qr75
            case g1qy75 => first | (intro w hSw; (try dsimp only at hSw); go_simp; done) | (intro w hSw; (try dsimp only at hSw); go_simp; with_reducible rfl)
            case' g1qr75 => try simp only [Act.put, List.setIfInBounds_toArray, List.set_cons_zero, List.set_cons_succ]
            refine wpAnyH_takeL (i := 76) (v := ?g1qv76) rfl (by kernel_rfl) (by kernel_rfl) (by kernel_rfl) (fun _ _ _ h => h) (Or.inl ⟨by rfl, ?g1qy76⟩) (by assumption) ?g1qr76
            case g1qy76 => first | (intro w hSw; (try dsimp only at hSw); go_simp; done) | (intro w hSw; (try dsimp only at hSw); go_simp; with_reducible rfl)
            case' g1qr76 => try simp only [Act.put, List.setIfInBounds_toArray, List.set_cons_zero, List.set_cons_succ]
            refine wpAnyH_takeL (i := 77) (v := ?g1qv77) rfl (by kernel_rfl) (by kernel_rfl) (by kernel_rfl) (fun _ _ _ h => h) (Or.inl ⟨by rfl, ?g1qy77⟩) (by assumption) ?g1qr77
            case g1qy77 => first | (intro w hSw; (try dsimp only at hSw); go_simp; done) | (intro w hSw; (try dsimp only at hSw); go_simp; with_reducible rfl)
            case' g1qr77 => try simp only [Act.put, List.setIfInBounds_toArray, List.set_cons_zero, List.set_cons_succ]
            refine wpAnyH_takeL (i := 78) (v := ?g1qv78) rfl (by kernel_rfl) (by kernel_rfl) (by kernel_rfl) (fun _ _ _ h => h) (Or.inl ⟨by rfl, ?g1qy78⟩) (by assumption) ?g1qr78
            case g1qy78 => first | (intro w hSw; (try dsimp only at hSw); go_simp; done) | (intro w hSw; (try dsimp only at hSw); go_simp; with_reducible rfl)
            case' g1qr78 => try simp only [Act.put, List.setIfInBounds_toArray, List.set_cons_zero, List.set_cons_succ]
            refine wpAnyH_takeL (i := 79) (v := ?g1qv79) rfl (by kernel_rfl) (by kernel_rfl) (by kernel_rfl) (fun _ _ _ h => h) (Or.inl ⟨by rfl, ?g1qy79⟩) (by assumption) ?g1qr79
            case g1qy79 => first | (intro w hSw; (try dsimp only at hSw); go_simp; done) | (intro w hSw; (try dsimp only at hSw); go_simp; with_reducible rfl)
            case' g1qr79 => try simp only [Act.put, List.setIfInBounds_toArray, List.set_cons_zero, List.set_cons_succ]
            refine wpAnyH_takeL (i := 80) (v := ?g1qv80) rfl (by kernel_rfl) (by kernel_rfl) (by kernel_rfl) (fun _ _ _ h => h) (Or.inl ⟨by rfl, ?g1qy80⟩) (by assumption) ?g1qr80
            case g1qy80 => first | (intro w hSw; (try dsimp only at hSw); go_simp; done) | (intro w hSw; (try dsimp only at hSw); go_simp; with_reducible rfl)
            case' g1qr80 => try simp only [Act.put, List.setIfInBounds_toArray, List.set_cons_zero, List.set_cons_succ]
            refine wpAnyH_takeL (i := 81) (v := ?g1qv81) rfl (by kernel_rfl) (by kernel_rfl) (by kernel_rfl) (fun _ _ _ h => h) (Or.inl ⟨by rfl, ?g1qy81⟩) (by assumption) ?g1qr81
            case g1qy81 => first | (intro w hSw; (try dsimp only at hSw); go_simp; done) | (intro w hSw; (try dsimp only at hSw); go_simp; with_reducible rfl)
            case' g1qr81 => try simp only [Act.put, List.setIfInBounds_toArray, List.set_cons_zero, List.set_cons_succ]
            refine wpAnyH_takeL (i := 82) (v := ?g1qv82) rfl (by kernel_rfl) (by kernel_rfl) (by kernel_rfl) (fun _ _ _ h => h) (Or.inl ⟨by rfl, ?g1qy82⟩) (by assumption) ?g1qr82
            case g1qy82 => first | (intro w hSw; (try dsimp only at hSw); go_simp; done) | (intro w hSw; (try dsimp only at hSw); go_simp; with_reducible rfl)
            case' g1qr82 => try simp only [Act.put, List.setIfInBounds_toArray, List.set_cons_zero, List.set_cons_succ]
            refine wpAnyH_takeL (i := 83) (v := ?g1qv83) rfl (by kernel_rfl) (by kernel_rfl) (by kernel_rfl) (fun _ _ _ h => h) (Or.inl ⟨by rfl, ?g1qy83⟩) (by assumption) ?g1qr83
            case g1qy83 => first | (intro w hSw; (try dsimp only at hSw); go_simp; done) | (intro w hSw; (try dsimp only at hSw); go_simp; with_reducible rfl)
            case' g1qr83 => try simp only [Act.put, List.setIfInBounds_toArray, List.set_cons_zero, List.set_cons_succ]
            refine wpAnyH_ready (rs := [69]) (by kernel_rfl) (by simp) ?_
            refine AllReadyH.consL rfl (fun K hK => ?_) AllReadyH.nil
            go_simp
            go_at_call 48
            refine (HNX.out _).mono ?_
            rintro e w5 ⟨rfl, hx5⟩
            have HX5 := hid hx5.drew_left
            clear hx5
            refine hK.out _ _ ⟨HX5.out.cell q0, ⟨HX5.out.cell z0, HX5.out.cell z1, HX5.out.cell z2, HX5.out.cell z3, HX5.out.cell z4, HX5.out.cell z5, HX5.out.cell z6, HX5.out.cell z7, HX5.out.cell z8⟩, HX5.out.cell v0, HX5.out.cell v8⟩ (fun hSg1q1 => ?_)
            clear hK K
            try simp only [Act.put, List.setIfInBounds_toArray, List.set_cons_zero, List.set_cons_succ]
            refine wpAnyH_takeL (i := 84) (v := ?g1qv84) rfl (by kernel_rfl) (by kernel_rfl) (by kernel_rfl) (fun _ _ _ h => h) (Or.inl ⟨by rfl, ?g1qy84⟩) (by assumption) ?g1qr84
            case g1qy84 => first | (intro w hSw; (try dsimp only at hSw); go_simp; done) | (intro w hSw; (try dsimp only at hSw); go_simp; with_reducible rfl)
            case' g1qr84 => try simp only [Act.put, List.setIfInBounds_toArray, List.set_cons_zero, List.set_cons_succ]
            refine wpAnyH_takeL (i := 85) (v := ?g1qv85) rfl (by kernel_rfl) (by kernel_rfl) (by kernel_rfl) (fun _ _ _ h => h) (Or.inl ⟨by rfl, ?g1qy85⟩) (by assumption) ?g1qr85
            case g1qy85 => first | (intro w hSw; (try dsimp only at hSw); go_simp; done) | (intro w hSw; (try dsimp only at hSw); go_simp; with_reducible rfl)
            case' g1qr85 => try simp only [Act.put, List.setIfInBounds_toArray, List.set_cons_zero, List.set_cons_succ]
            refine wpAnyH_done (by kernel_rfl) ?_ _
            go_wp2
            go_meet
            exact ⟨neq, rfl, HX5, hid (fun h => HP.out.step HI.out (by omega) (by omega) (HNE.out h) HOV.out)⟩
        obtain ⟨q, hq⟩ : ∃ q, j = q + 1 := ⟨j - 1, by omega⟩
        obtain ⟨p, hp⟩ : ∃ p, ins[q]? = some p := ⟨_, List.getElem?_eq_getElem (by have := HLN.out; omega)⟩
        obtain ⟨b', o', hA, hokp, v0, v1, v2, v3, v4, v5, v6, v7, v8⟩ := Sl.in_at (HS.out.ext HX.out) hp
        cases hA
        obtain ⟨⟨u1, u2, -⟩, -⟩ := HP.out q p (by omega) hp
        have hp32 := hokp.1
        have f1 : IntKind.i64.wrap ((p.addr : Int) + p.size) = (p.addr : Int) + p.size := IntWalk.i64_in _ (by omega)
        have f2 : IntKind.i64.wrap (p.addr : Int) = (p.addr : Int) := IntWalk.i64_in _ (by omega)
        have f3 : IntKind.i64.wrap ((j : Int) - 1) = (q : Int) := by rw [hq]; rw [IntWalk.i64_in _ (by omega)]; omega
        have hj1 : decide ((j : Int) > 0) = true := decide_eq_true (by omega)
        have hj2 : decide (0 < (j : Int)) = true := decide_eq_true (by omega)
        have hj3 : decide (0 < j) = true := decide_eq_true (by omega)
        have g1 : (0 : Int) ≤ (q : Int) := by omega
        have g2 : (q : Int) < (n : Int) := by omega
        have HQ := hid hq
        have HPP := hid hp
        clear hokp v1 v2 v3 v4 v5 v6 v7 hj0 hq hp
        by_cases hov : (i.addr : Int) < (p.addr : Int) + p.size
        · have hov1 : decide ((i.addr : Int) < (p.addr : Int) + p.size) = true := decide_eq_true hov
          clear hov
          go_big_quiet_o (fail)
          go_wp2
          go_meet
          exact ⟨true, rfl, hid ((Ext.refl wr).drewN _), hid (fun h => by cases h)⟩
        · have hov1 : decide ((i.addr : Int) < (p.addr : Int) + p.size) = false := decide_eq_false hov
          have HOV : Hid (∀ q p, j = q + 1 → ins[q]? = some p → (p.addr : Int) + p.size ≤ i.addr) := hid (fun q' p' h1 h2 => by
            have := HQ.out
            obtain rfl : q' = q := by omega
            have h3 := HPP.out
            rw [h2] at h3
            injection h3 with h3
            subst h3
            omega)
          as_aux_lemma =>
            refine wp_region_held_drew (S := (fun w' => w'.cell? ⟨w.heap.size, 0, none⟩ = some (.slice (some ⟨b, o, none⟩) n c) ∧ (w'.cell? ⟨b, o + j * 9, none⟩ = some (.int .u32 i.addr) ∧ w'.cell? ⟨b, o + j * 9 + 1, none⟩ = some (.int .u32 i.imm) ∧ w'.cell? ⟨b, o + j * 9 + 2, none⟩ = some (.int .i64 i.op) ∧ w'.cell? ⟨b, o + j * 9 + 3, none⟩ = some (.int .i64 i.form) ∧ w'.cell? ⟨b, o + j * 9 + 4, none⟩ = some (.int .i64 i.width) ∧ w'.cell? ⟨b, o + j * 9 + 5, none⟩ = some (.int .i64 i.cc) ∧ w'.cell? ⟨b, o + j * 9 + 6, none⟩ = some (.int .i64 i.a) ∧ w'.cell? ⟨b, o + j * 9 + 7, none⟩ = some (.int .i64 i.b) ∧ w'.cell? ⟨b, o + j * 9 + 8, none⟩ = some (.int .i64 i.size)) ∧ w'.cell? ⟨b, o + q * 9, none⟩ = some (.int .u32 p.addr) ∧ w'.cell? ⟨b, o + q * 9 + 8, none⟩ = some (.int .i64 p.size))) (by kernel_rfl) ⟨q0, ⟨z0, z1, z2, z3, z4, z5, z6, z7, z8⟩, v0, v8⟩ (fun hSg2q0 => ?_)
            refine wpAnyH_takeL (i := 0) (v := ?g2qv0) rfl (by kernel_rfl) (by kernel_rfl) (by kernel_rfl) (fun _ _ _ h => h) (Or.inl ⟨by rfl, ?g2qy0⟩) (by assumption) ?g2qr0
            case g2qy0 => first | (intro w hSw; (try dsimp only at hSw); go_simp; done) | (intro w hSw; (try dsimp only at hSw); go_simp; with_reducible rfl)
            case' g2qr0 => try simp only [Act.put, List.setIfInBounds_toArray, List.set_cons_zero, List.set_cons_succ]
            refine wpAnyH_takeL (i := 1) (v := ?g2qv1) rfl (by kernel_rfl) (by kernel_rfl) (by kernel_rfl) (fun _ _ _ h => h) (Or.inl ⟨by rfl, ?g2qy1⟩) (by assumption) ?g2qr1
            case g2qy1 => first | (intro w hSw; (try dsimp only at hSw); go_simp; done) | (intro w hSw; (try dsimp only at hSw); go_simp; with_reducible rfl)
            case' g2qr1 => try simp only [Act.put, List.setIfInBounds_toArray, List.set_cons_zero, List.set_cons_succ]
            refine wpAnyH_takeL (i := 2) (v := ?g2qv2) rfl (by kernel_rfl) (by kernel_rfl) (by kernel_rfl) (fun _ _ _ h => h) (Or.inl ⟨by rfl, ?g2qy2⟩) (by assumption) ?g2qr2
            case g2qy2 => first | (intro w hSw; (try dsimp only at hSw); go_simp; done) | (intro w hSw; (try dsimp only at hSw); go_simp; with_reducible rfl)
            case' g2qr2 => try simp only [Act.put, List.setIfInBounds_toArray, List.set_cons_zero, List.set_cons_succ]
            refine wpAnyH_takeL (i := 3) (v := ?g2qv3) rfl (by kernel_rfl) (by kernel_rfl) (by kernel_rfl) (fun _ _ _ h => h) (Or.inl ⟨by rfl, ?g2qy3⟩) (by assumption) ?g2qr3
            case g2qy3 => first | (intro w hSw; (try dsimp only at hSw); go_simp; done) | (intro w hSw; (try dsimp only at hSw); go_simp; with_reducible rfl)
            case' g2qr3 => try simp only [Act.put, List.setIfInBounds_toArray, List.set_cons_zero, List.set_cons_succ]
            refine wpAnyH_takeL (i := 4) (v := ?g2qv4) rfl (by kernel_rfl) (by kernel_rfl) (by kernel_rfl) (fun _ _ _ h => h) (Or.inl ⟨by rfl, ?g2qy4⟩) (by assumption) ?g2qr4
            case g2qy4 => first | (intro w hSw; (try dsimp only at hSw); go_simp; done) | (intro w hSw; (try dsimp only at hSw); go_simp; with_reducible rfl)
            case' g2qr4 => try simp only [Act.put, List.setIfInBounds_toArray, List.set_cons_zero, List.set_cons_succ]
            refine wpAnyH_takeL (i := 5) (v := ?g2qv5) rfl (by kernel_rfl) (by kernel_rfl) (by kernel_rfl) (fun _ _ _ h => h) (Or.inl ⟨by rfl, ?g2qy5⟩) (by assumption) ?g2qr5
            case g2qy5 => first | (intro w hSw; (try dsimp only at hSw); go_simp; done) | (intro w hSw; (try dsimp only at hSw); go_simp; with_reducible rfl)
            case' g2qr5 => try simp only [Act.put, List.setIfInBounds_toArray, List.set_cons_zero, List.set_cons_succ]
            refine wpAnyH_takeL (i := 6) (v := ?g2qv6) rfl (by kernel_rfl) (by kernel_rfl) (by kernel_rfl) (fun _ _ _ h => h) (Or.inl ⟨by rfl, ?g2qy6⟩) (by assumption) ?g2qr6
            case g2qy6 => first | (intro w hSw; (try dsimp only at hSw); go_simp; done) | (intro w hSw; (try dsimp only at hSw); go_simp; with_reducible rfl)
            case' g2qr6 => try simp only [Act.put, List.setIfInBounds_toArray, List.set_cons_zero, List.set_cons_succ]
            refine wpAnyH_takeL (i := 7) (v := ?g2qv7) rfl (by kernel_rfl) (by kernel_rfl) (by kernel_rfl) (fun _ _ _ h => h) (Or.inl ⟨by rfl, ?g2qy7⟩) (by assumption) ?g2qr7
            case g2qy7 => first | (intro w hSw; (try dsimp only at hSw); go_simp; done) | (intro w hSw; (try dsimp only at hSw); go_simp; with_reducible rfl)
            case' g2qr7 => try simp only [Act.put, List.setIfInBounds_toArray, List.set_cons_zero, List.set_cons_succ]
            refine wpAnyH_takeL (i := 8) (v := ?g2qv8) rfl (by kernel_rfl) (by kernel_rfl) (by kernel_rfl) (fun _ _ _ h => h) (Or.inl ⟨by rfl, ?g2qy8⟩) (by assumption) ?g2qr8
            case g2qy8 => first | (intro w hSw; (try dsimp only at hSw); go_simp; done) | (intro w hSw; (try dsimp only at hSw); go_simp; with_reducible rfl)
            case' g2qr8 => try simp only [Act.put, List.setIfInBounds_toArray, List.set_cons_zero, List.set_cons_succ]
            refine wpAnyH_takeL (i := 9) (v := ?g2qv9) rfl (by kernel_rfl) (by kernel_rfl) (by kernel_rfl) (fun _ _ _ h => h) (Or.inl ⟨by rfl, ?g2qy9⟩) (by assumption) ?g2qr9
            case g2qy9 => first | (intro w hSw; (try dsimp only at hSw); go_simp; done) | (intro w hSw; (try dsimp only at hSw); go_simp; with_reducible rfl)
            case' g2qr9 => try simp only [Act.put, List.setIfInBounds_toArray, List.set_cons_zero, List.set_cons_succ]
            refine wpAnyH_takeL (i := 10) (v := ?g2qv10) rfl (by kernel_rfl) (by kernel_rfl) (by kernel_rfl) (fun _ _ _ h => h) (Or.inl ⟨by rfl, ?g2qy10⟩) (by assumption) ?g2qr10
            case g2qy10 => first | (intro w hSw; (try dsimp only at hSw); go_simp; done) | (intro w hSw; (try dsimp only at hSw); go_simp; with_reducible rfl)
            case' g2qr10 => try simp only [Act.put, List.setIfInBounds_toArray, List.set_cons_zero, List.set_cons_succ]
            refine wpAnyH_takeL (i := 11) (v := ?g2qv11) rfl (by kernel_rfl) (by kernel_rfl) (by kernel_rfl) (fun _ _ _ h => h) (Or.inl ⟨by rfl, ?g2qy11⟩) (by assumption) ?g2qr11
            case g2qy11 => first | (intro w hSw; (try dsimp only at hSw); go_simp; done) | (intro w hSw; (try dsimp only at hSw); go_simp; with_reducible rfl)
            case' g2qr11 => try simp only [Act.put, List.setIfInBounds_toArray, List.set_cons_zero, List.set_cons_succ]
            refine wpAnyH_takeL (i := 12) (v := ?g2qv12) rfl (by kernel_rfl) (by kernel_rfl) (by kernel_rfl) (fun _ _ _ h => h) (Or.inl ⟨by rfl, ?g2qy12⟩) (by assumption) ?g2qr12
            case g2qy12 => first | (intro w hSw; (try dsimp only at hSw); go_simp; done) | (intro w hSw; (try dsimp only at hSw); go_simp; with_reducible rfl)
            case' g2qr12 => try simp only [Act.put, List.setIfInBounds_toArray, List.set_cons_zero, List.set_cons_succ]
            refine wpAnyH_takeL (i := 13) (v := ?g2qv13) rfl (by kernel_rfl) (by kernel_rfl) (by kernel_rfl) (fun _ _ _ h => h) (Or.inl ⟨by rfl, ?g2qy13⟩) (by assumption) ?g2qr13
            case g2qy13 => first | (intro w hSw; (try dsimp only at hSw); go_simp; done) | (intro w hSw; (try dsimp only at hSw); go_simp; with_reducible rfl)
            case' g2qr13 => try simp only [Act.put, List.setIfInBounds_toArray, List.set_cons_zero, List.set_cons_succ]
            refine wpAnyH_takeL (i := 14) (v := ?g2qv14) rfl (by kernel_rfl) (by kernel_rfl) (by kernel_rfl) (fun _ _ _ h => h) (Or.inl ⟨by rfl, ?g2qy14⟩) (by assumption) ?g2qr14
            case g2qy14 => first | (intro w hSw; (try dsimp only at hSw); go_simp; done) | (intro w hSw; (try dsimp only at hSw); go_simp; with_reducible rfl)
            case' g2qr14 => try simp only [Act.put, List.setIfInBounds_toArray, List.set_cons_zero, List.set_cons_succ]
            refine wpAnyH_takeL (i := 15) (v := ?g2qv15) rfl (by kernel_rfl) (by kernel_rfl) (by kernel_rfl) (fun _ _ _ h => h) (Or.inl ⟨by rfl, ?g2qy15⟩) (by assumption) ?g2qr15
            case g2qy15 => first | (intro w hSw; (try dsimp only at hSw); go_simp; done) | (intro w hSw; (try dsimp only at hSw); go_simp; with_reducible rfl)
            case' g2qr15 => try simp only [Act.put, List.setIfInBounds_toArray, List.set_cons_zero, List.set_cons_succ]
            refine wpAnyH_takeL (i := 16) (v := ?g2qv16) rfl (by kernel_rfl) (by kernel_rfl) (by kernel_rfl) (fun _ _ _ h => h) (Or.inl ⟨by rfl, ?g2qy16⟩) (by assumption) ?g2qr16
            case g2qy16 => first | (intro w hSw; (try dsimp only at hSw); go_simp; done) | (intro w hSw; (try dsimp only at hSw); go_simp; with_reducible rfl)
            case' g2qr16 => try simp only [Act.put, List.setIfInBounds_toArray, List.set_cons_zero, List.set_cons_succ]
            refine wpAnyH_takeL (i := 17) (v := ?g2qv17) rfl (by kernel_rfl) (by kernel_rfl) (by kernel_rfl) (fun _ _ _ h => h) (Or.inl ⟨by rfl, ?g2qy17⟩) (by assumption) ?g2qr17
            case g2qy17 => first | (intro w hSw; (try dsimp only at hSw); go_simp; done) | (intro w hSw; (try dsimp only at hSw); go_simp; with_reducible rfl)
            case' g2qr17 => try simp only [Act.put, List.setIfInBounds_toArray, List.set_cons_zero, List.set_cons_succ]
            refine wpAnyH_takeL (i := 18) (v := ?g2qv18) rfl (by kernel_rfl) (by kernel_rfl) (by kernel_rfl) (fun _ _ _ h => h) (Or.inl ⟨by rfl, ?g2qy18⟩) (by assumption) ?g2qr18
            case g2qy18 => first | (intro w hSw; (try dsimp only at hSw); go_simp; done) | (intro w hSw; (try dsimp only at hSw); go_simp; with_reducible rfl)
            case' g2qr18 => try simp only [Act.put, List.setIfInBounds_toArray, List.set_cons_zero, List.set_cons_succ]
            refine wpAnyH_takeL (i := 19) (v := ?g2qv19) rfl (by kernel_rfl) (by kernel_rfl) (by kernel_rfl) (fun _ _ _ h => h) (Or.inl ⟨by rfl, ?g2qy19⟩) (by assumption) ?g2qr19
            case g2qy19 => first | (intro w hSw; (try dsimp only at hSw); go_simp; done) | (intro w hSw; (try dsimp only at hSw); go_simp; with_reducible rfl)
            case' g2qr19 => try simp only [Act.put, List.setIfInBounds_toArray, List.set_cons_zero, List.set_cons_succ]
            refine wpAnyH_takeL (i := 20) (v := ?g2qv20) rfl (by kernel_rfl) (by kernel_rfl) (by kernel_rfl) (fun _ _ _ h => h) (Or.inl ⟨by rfl, ?g2qy20⟩) (by assumption) ?g2qr20
            case g2qy20 => first | (intro w hSw; (try dsimp only at hSw); go_simp; done) | (intro w hSw; (try dsimp only at hSw); go_simp; with_reducible rfl)
            case' g2qr20 => try simp only [Act.put, List.setIfInBounds_toArray, List.set_cons_zero, List.set_cons_succ]
            refine wpAnyH_takeL (i := 21) (v := ?g2qv21) rfl (by kernel_rfl) (by kernel_rfl) (by kernel_rfl) (fun _ _ _ h => h) (Or.inl ⟨by rfl, ?g2qy21⟩) (by assumption) ?g2qr21
            case g2qy21 => first | (intro w hSw; (try dsimp only at hSw); go_simp; done) | (intro w hSw; (try dsimp only at hSw); go_simp; with_reducible rfl)
            case' g2qr21 => try simp only [Act.put, List.setIfInBounds_toArray, List.set_cons_zero, List.set_cons_succ]
            refine wpAnyH_takeL (i := 22) (v := ?g2qv22) rfl (by kernel_rfl) (by kernel_rfl) (by kernel_rfl) (fun _ _ _ h => h) (Or.inl ⟨by rfl, ?g2qy22⟩) (by assumption) ?g2qr22
            case g2qy22 => first | (intro w hSw; (try dsimp only at hSw); go_simp; done) | (intro w hSw; (try dsimp only at hSw); go_simp; with_reducible rfl)
            case' g2qr22 => try simp only [Act.put, List.setIfInBounds_toArray, List.set_cons_zero, List.set_cons_succ]
            refine wpAnyH_takeL (i := 23) (v := ?g2qv23) rfl (by kernel_rfl) (by kernel_rfl) (by kernel_rfl) (fun _ _ _ h => h) (Or.inl ⟨by rfl, ?g2qy23⟩) (by assumption) ?g2qr23
            case g2qy23 => first | (intro w hSw; (try dsimp only at hSw); go_simp; done) | (intro w hSw; (try dsimp only at hSw); go_simp; with_reducible rfl)
            case' g2qr23 => try simp only [Act.put, List.setIfInBounds_toArray, List.set_cons_zero, List.set_cons_succ]
            refine wpAnyH_takeL (i := 24) (v := ?g2qv24) rfl (by kernel_rfl) (by kernel_rfl) (by kernel_rfl) (fun _ _ _ h => h) (Or.inl ⟨by rfl, ?g2qy24⟩) (by assumption) ?g2qr24
            case g2qy24 => first | (intro w hSw; (try dsimp only at hSw); go_simp; done) | (intro w hSw; (try dsimp only at hSw); go_simp; with_reducible rfl)
            case' g2qr24 => try simp only [Act.put, List.setIfInBounds_toArray, List.set_cons_zero, List.set_cons_succ]
            refine wpAnyH_takeL (i := 25) (v := ?g2qv25) rfl (by kernel_rfl) (by kernel_rfl) (by kernel_rfl) (fun _ _ _ h => h) (Or.inl ⟨by rfl, ?g2qy25⟩) (by assumption) ?g2qr25
            case g2qy25 => first | (intro w hSw; (try dsimp only at hSw); go_simp; done) | (intro w hSw; (try dsimp only at hSw); go_simp; with_reducible rfl)
            case' g2qr25 => try simp only [Act.put, List.setIfInBounds_toArray, List.set_cons_zero, List.set_cons_succ]
            refine wpAnyH_takeL (i := 26) (v := ?g2qv26) rfl (by kernel_rfl) (by kernel_rfl) (by kernel_rfl) (fun _ _ _ h => h) (Or.inl ⟨by rfl, ?g2qy26⟩) (by assumption) ?g2qr26
            case g2qy26 => first | (intro w hSw; (try dsimp only at hSw); go_simp; done) | (intro w hSw; (try dsimp only at hSw); go_simp; with_reducible rfl)
            case' g2qr26 => try simp only [Act.put, List.setIfInBounds_toArray, List.set_cons_zero, List.set_cons_succ]
            refine wpAnyH_takeL (i := 27) (v := ?g2qv27) rfl (by kernel_rfl) (by kernel_rfl) (by kernel_rfl) (fun _ _ _ h => h) (Or.inl ⟨by rfl, ?g2qy27⟩) (by assumption) ?g2qr27
            case g2qy27 => first | (intro w hSw; (try dsimp only at hSw); go_simp; done) | (intro w hSw; (try dsimp only at hSw); go_simp; with_reducible rfl)
            case' g2qr27 => try simp only [Act.put, List.setIfInBounds_toArray, List.set_cons_zero, List.set_cons_succ]
            refine wpAnyH_takeL (i := 28) (v := ?g2qv28) rfl (by kernel_rfl) (by kernel_rfl) (by kernel_rfl) (fun _ _ _ h => h) (Or.inl ⟨by rfl, ?g2qy28⟩) (by assumption) ?g2qr28
            case g2qy28 => first | (intro w hSw; (try dsimp only at hSw); go_simp; done) | (intro w hSw; (try dsimp only at hSw); go_simp; with_reducible rfl)
            case' g2qr28 => try simp only [Act.put, List.setIfInBounds_toArray, List.set_cons_zero, List.set_cons_succ]
            refine wpAnyH_takeL (i := 29) (v := ?g2qv29) rfl (by kernel_rfl) (by kernel_rfl) (by kernel_rfl) (fun _ _ _ h => h) (Or.inl ⟨by rfl, ?g2qy29⟩) (by assumption) ?g2qr29
            case g2qy29 => first | (intro w hSw; (try dsimp only at hSw); go_simp; done) | (intro w hSw; (try dsimp only at hSw); go_simp; with_reducible rfl)
            case' g2qr29 => try simp only [Act.put, List.setIfInBounds_toArray, List.set_cons_zero, List.set_cons_succ]
            refine wpAnyH_takeL (i := 30) (v := ?g2qv30) rfl (by kernel_rfl) (by kernel_rfl) (by kernel_rfl) (fun _ _ _ h => h) (Or.inl ⟨by rfl, ?g2qy30⟩) (by assumption) ?g2qr30
            case g2qy30 => first | (intro w hSw; (try dsimp only at hSw); go_simp; done) | (intro w hSw; (try dsimp only at hSw); go_simp; with_reducible rfl)
            case' g2qr30 => try simp only [Act.put, List.setIfInBounds_toArray, List.set_cons_zero, List.set_cons_succ]
            refine wpAnyH_takeL (i := 31) (v := ?g2qv31) rfl (by kernel_rfl) (by kernel_rfl) (by kernel_rfl) (fun _ _ _ h => h) (Or.inl ⟨by rfl, ?g2qy31⟩) (by assumption) ?g2qr31
            case g2qy31 => first | (intro w hSw; (try dsimp only at hSw); go_simp; done) | (intro w hSw; (try dsimp only at hSw); go_simp; with_reducible rfl)
            case' g2qr31 => try simp only [Act.put, List.setIfInBounds_toArray, List.set_cons_zero, List.set_cons_succ]
            refine wpAnyH_takeL (i := 32) (v := ?g2qv32) rfl (by kernel_rfl) (by kernel_rfl) (by kernel_rfl) (fun _ _ _ h => h) (Or.inl ⟨by rfl, ?g2qy32⟩) (by assumption) ?g2qr32
            case g2qy32 => first | (intro w hSw; (try dsimp only at hSw); go_simp; done) | (intro w hSw; (try dsimp only at hSw); go_simp; with_reducible rfl)
            case' g2qr32 => try simp only [Act.put, List.setIfInBounds_toArray, List.set_cons_zero, List.set_cons_succ]
            refine wpAnyH_takeL (i := 33) (v := ?g2qv33) rfl (by kernel_rfl) (by kernel_rfl) (by kernel_rfl) (fun _ _ _ h => h) (Or.inl ⟨by rfl, ?g2qy33⟩) (by assumption) ?g2qr33
            case g2qy33 => first | (intro w hSw; (try dsimp only at hSw); go_simp; done) | (intro w hSw; (try dsimp only at hSw); go_simp; with_reducible rfl)
            case' g2qr33 => try simp only [Act.put, List.setIfInBounds_toArray, List.set_cons_zero, List.set_cons_succ]
            refine wpAnyH_takeL (i := 34) (v := ?g2qv34) rfl (by kernel_rfl) (by kernel_rfl) (by kernel_rfl) (fun _ _ _ h => h) (Or.inl ⟨by rfl, ?g2qy34⟩) (by assumption) ?g2qr34
            case g2qy34 => first | (intro w hSw; (try dsimp only at hSw); go_simp; done) | (intro w hSw; (try dsimp only at hSw); go_simp; with_reducible rfl)
            case' g2qr34 => try simp only [Act.put, List.setIfInBounds_toArray, List.set_cons_zero, List.set_cons_succ]
            refine wpAnyH_takeL (i := 35) (v := ?g2qv35) rfl (by kernel_rfl) (by kernel_rfl) (by kernel_rfl) (fun _ _ _ h => h) (Or.inl ⟨by rfl, ?g2qy35⟩) (by assumption) ?g2qr35
            case g2qy35 => first | (intro w hSw; (try dsimp only at hSw); go_simp; done) | (intro w hSw; (try dsimp only at hSw); go_simp; with_reducible rfl)
            case' g2qr35 => try simp only [Act.put, List.setIfInBounds_toArray, List.set_cons_zero, List.set_cons_succ]
            refine wpAnyH_takeL (i := 36) (v := ?g2qv36) rfl (by kernel_rfl) (by kernel_rfl) (by kernel_rfl) (fun _ _ _ h => h) (Or.inl ⟨by rfl, ?g2qy36⟩) (by assumption) ?g2qr36
            case g2qy36 => first | (intro w hSw; (try dsimp only at hSw); go_simp; done) | (intro w hSw; (try dsimp only at hSw); go_simp; with_reducible rfl)
            case' g2qr36 => try simp only [Act.put, List.setIfInBounds_toArray, List.set_cons_zero, List.set_cons_succ]
            refine wpAnyH_takeL (i := 37) (v := ?g2qv37) rfl (by kernel_rfl) (by kernel_rfl) (by kernel_rfl) (fun _ _ _ h => h) (Or.inl ⟨by rfl, ?g2qy37⟩) (by assumption) ?g2qr37
            case g2qy37 => first | (intro w hSw; (try dsimp only at hSw); go_simp; done) | (intro w hSw; (try dsimp only at hSw); go_simp; with_reducible rfl)
            case' g2qr37 => try simp only [Act.put, List.setIfInBounds_toArray, List.set_cons_zero, List.set_cons_succ]
            refine wpAnyH_takeL (i := 38) (v := ?g2qv38) rfl (by kernel_rfl) (by kernel_rfl) (by kernel_rfl) (fun _ _ _ h => h) (Or.inl ⟨by rfl, ?g2qy38⟩) (by assumption) ?g2qr38
            case g2qy38 => first | (intro w hSw; (try dsimp only at hSw); go_simp; done) | (intro w hSw; (try dsimp only at hSw); go_simp; with_reducible rfl)
            case' g2qr38 => try simp only [Act.put, List.setIfInBounds_toArray, List.set_cons_zero, List.set_cons_succ]
            refine wpAnyH_takeL (i := 39) (v := ?g2qv39) rfl (by kernel_rfl) (by kernel_rfl) (by kernel_rfl) (fun _ _ _ h => h) (Or.inl ⟨by rfl, ?g2qy39⟩) (by assumption) ?g2qr39
            case g2qy39 => first | (intro w hSw; (try dsimp only at hSw); go_simp; done) | (intro w hSw; (try dsimp only at hSw); go_simp; with_reducible rfl)
            case' g2qr39 => try simp only [Act.put, List.setIfInBounds_toArray, List.set_cons_zero, List.set_cons_succ]
            refine wpAnyH_takeL (i := 40) (v := ?g2qv40) rfl (by kernel_rfl) (by kernel_rfl) (by kernel_rfl) (fun _ _ _ h => h) (Or.inl ⟨by rfl, ?g2qy40⟩) (by assumption) ?g2qr40
            case g2qy40 => first | (intro w hSw; (try dsimp only at hSw); go_simp; done) | (intro w hSw; (try dsimp only at hSw); go_simp; with_reducible rfl)
            case' g2qr40 => try simp only [Act.put, List.setIfInBounds_toArray, List.set_cons_zero, List.set_cons_succ]
            refine wpAnyH_takeL (i := 41) (v := ?g2qv41) rfl (by kernel_rfl) (by kernel_rfl) (by kernel_rfl) (fun _ _ _ h => h) (Or.inl ⟨by rfl, ?g2qy41⟩) (by assumption) ?g2qr41
            case g2qy41 => first | (intro w hSw; (try dsimp only at hSw); go_simp; done) | (intro w hSw; (try dsimp only at hSw); go_simp; with_reducible rfl)
            case' g2qr41 => try simp only [Act.put, List.setIfInBounds_toArray, List.set_cons_zero, List.set_cons_succ]
            refine wpAnyH_takeL (i := 42) (v := ?g2qv42) rfl (by kernel_rfl) (by kernel_rfl) (by kernel_rfl) (fun _ _ _ h => h) (Or.inl ⟨by rfl, ?g2qy42⟩) (by assumption) ?g2qr42
            case g2qy42 => first | (intro w hSw; (try dsimp only at hSw); go_simp; done) | (intro w hSw; (try dsimp only at hSw); go_simp; with_reducible rfl)
            case' g2qr42 => try simp only [Act.put, List.setIfInBounds_toArray, List.set_cons_zero, List.set_cons_succ]
            refine wpAnyH_takeL (i := 43) (v := ?g2qv43) rfl (by kernel_rfl) (by kernel_rfl) (by kernel_rfl) (fun _ _ _ h => h) (Or.inl ⟨by rfl, ?g2qy43⟩) (by assumption) ?g2qr43
            case g2qy43 => first | (intro w hSw; (try dsimp only at hSw); go_simp; done) | (intro w hSw; (try dsimp only at hSw); go_simp; with_reducible rfl)
            case' g2qr43 => try simp only [Act.put, List.setIfInBounds_toArray, List.set_cons_zero, List.set_cons_succ]
            refine wpAnyH_takeL (i := 44) (v := ?g2qv44) rfl (by kernel_rfl) (by kernel_rfl) (by kernel_rfl) (fun _ _ _ h => h) (Or.inl ⟨by rfl, ?g2qy44⟩) (by assumption) ?g2qr44
            case g2qy44 => first | (intro w hSw; (try dsimp only at hSw); go_simp; done) | (intro w hSw; (try dsimp only at hSw); go_simp; with_reducible rfl)
            case' g2qr44 => try simp only [Act.put, List.setIfInBounds_toArray, List.set_cons_zero, List.set_cons_succ]
            refine wpAnyH_takeL (i := 45) (v := ?g2qv45) rfl (by kernel_rfl) (by kernel_rfl) (by kernel_rfl) (fun _ _ _ h => h) (Or.inl ⟨by rfl, ?g2qy45⟩) (by assumption) ?g2qr45
            case g2qy45 => first | (intro w hSw; (try dsimp only at hSw); go_simp; done) | (intro w hSw; (try dsimp only at hSw); go_simp; with_reducible rfl)
            case' g2qr45 => try simp only [Act.put, List.setIfInBounds_toArray, List.set_cons_zero, List.set_cons_succ]
            refine wpAnyH_takeL (i := 46) (v := ?g2qv46) rfl (by kernel_rfl) (by kernel_rfl) (by kernel_rfl) (fun _ _ _ h => h) (Or.inl ⟨by rfl, ?g2qy46⟩) (by assumption) ?g2qr46
            case g2qy46 => first | (intro w hSw; (try dsimp only at hSw); go_simp; done) | (intro w hSw; (try dsimp only at hSw); go_simp; with_reducible rfl)
            case' g2qr46 => try simp only [Act.put, List.setIfInBounds_toArray, List.set_cons_zero, List.set_cons_succ]
            refine wpAnyH_takeL (i := 47) (v := ?g2qv47) rfl (by kernel_rfl) (by kernel_rfl) (by kernel_rfl) (fun _ _ _ h => h) (Or.inl ⟨by rfl, ?g2qy47⟩) (by assumption) ?g2qr47
            case g2qy47 => first | (intro w hSw; (try dsimp only at hSw); go_simp; done) | (intro w hSw; (try dsimp only at hSw); go_simp; with_reducible rfl)
            case' g2qr47 => try simp only [Act.put, List.setIfInBounds_toArray, List.set_cons_zero, List.set_cons_succ]
            refine wpAnyH_takeL (i := 48) (v := ?g2qv48) rfl (by kernel_rfl) (by kernel_rfl) (by kernel_rfl) (fun _ _ _ h => h) (Or.inl ⟨by rfl, ?g2qy48⟩) (by assumption) ?g2qr48
            case g2qy48 => first | (intro w hSw; (try dsimp only at hSw); go_simp; done) | (intro w hSw; (try dsimp only at hSw); go_simp; with_reducible rfl)
            case' g2qr48 => try simp only [Act.put, List.setIfInBounds_toArray, List.set_cons_zero, List.set_cons_succ]
            refine wpAnyH_takeL (i := 49) (v := ?g2qv49) rfl (by kernel_rfl) (by kernel_rfl) (by kernel_rfl) (fun _ _ _ h => h) (Or.inl ⟨by rfl, ?g2qy49⟩) (by assumption) ?g2qr49
            case g2qy49 => first | (intro w hSw; (try dsimp only at hSw); go_simp; done) | (intro w hSw; (try dsimp only at hSw); go_simp; with_reducible rfl)
            case' g2qr49 => try simp only [Act.put, List.setIfInBounds_toArray, List.set_cons_zero, List.set_cons_succ]
            refine wpAnyH_takeL (i := 50) (v := ?g2qv50) rfl (by kernel_rfl) (by kernel_rfl) (by kernel_rfl) (fun _ _ _ h => h) (Or.inl ⟨by rfl, ?g2qy50⟩) (by assumption) ?g2qr50
            case g2qy50 => first | (intro w hSw; (try dsimp only at hSw); go_simp; done) | (intro w hSw; (try dsimp only at hSw); go_simp; with_reducible rfl)
            case' g2qr50 => try simp only [Act.put, List.setIfInBounds_toArray, List.set_cons_zero, List.set_cons_succ]
            refine wpAnyH_takeL (i := 51) (v := ?g2qv51) rfl (by kernel_rfl) (by kernel_rfl) (by kernel_rfl) (fun _ _ _ h => h) (Or.inl ⟨by rfl, ?g2qy51⟩) (by assumption) ?g2qr51
            case g2qy51 => first | (intro w hSw; (try dsimp only at hSw); go_simp; done) | (intro w hSw; (try dsimp only at hSw); go_simp; with_reducible rfl)
            case' g2qr51 => try simp only [Act.put, List.setIfInBounds_toArray, List.set_cons_zero, List.set_cons_succ]
            refine wpAnyH_takeL (i := 52) (v := ?g2qv52) rfl (by kernel_rfl) (by kernel_rfl) (by kernel_rfl) (fun _ _ _ h => h) (Or.inl ⟨by rfl, ?g2qy52⟩) (by assumption) ?g2qr52
            case g2qy52 => first | (intro w hSw; (try dsimp only at hSw); go_simp; done) | (intro w hSw; (try dsimp only at hSw); go_simp; with_reducible rfl)
            case' g2qr52 => try simp only [Act.put, List.setIfInBounds_toArray, List.set_cons_zero, List.set_cons_succ]
            refine wpAnyH_takeL (i := 53) (v := ?g2qv53) rfl (by kernel_rfl) (by kernel_rfl) (by kernel_rfl) (fun _ _ _ h => h) (Or.inl ⟨by rfl, ?g2qy53⟩) (by assumption) ?g2qr53
            case g2qy53 => first | (intro w hSw; (try dsimp only at hSw); go_simp; done) | (intro w hSw; (try dsimp only at hSw); go_simp; with_reducible rfl)
            case' g2qr53 => try simp only [Act.put, List.setIfInBounds_toArray, List.set_cons_zero, List.set_cons_succ]
            refine wpAnyH_takeL (i := 54) (v := ?g2qv54) rfl (by kernel_rfl) (by kernel_rfl) (by kernel_rfl) (fun _ _ _ h => h) (Or.inl ⟨by rfl, ?g2qy54⟩) (by assumption) ?g2qr54
            case g2qy54 => first | (intro w hSw; (try dsimp only at hSw); go_simp; done) | (intro w hSw; (try dsimp only at hSw); go_simp; with_reducible rfl)
            case' g2qr54 => try simp only [Act.put, List.setIfInBounds_toArray, List.set_cons_zero, List.set_cons_succ]
            refine wpAnyH_takeL (i := 55) (v := ?g2qv55) rfl (by kernel_rfl) (by kernel_rfl) (by kernel_rfl) (fun _ _ _ h => h) (Or.inl ⟨by rfl, ?g2qy55⟩) (by assumption) ?g2qr55
            case g2qy55 => first | (intro w hSw; (try dsimp only at hSw); go_simp; done) | (intro w hSw; (try dsimp only at hSw); go_simp; with_reducible rfl)
            case' g2qr55 => try simp only [Act.put, List.setIfInBounds_toArray, List.set_cons_zero, List.set_cons_succ]
            refine wpAnyH_takeL (i := 56) (v := ?g2qv56) rfl (by kernel_rfl) (by kernel_rfl) (by kernel_rfl) (fun _ _ _ h => h) (Or.inl ⟨by rfl, ?g2qy56⟩) (by assumption) ?g2qr56
            case g2qy56 => first | (intro w hSw; (try dsimp only at hSw); go_simp; done) | (intro w hSw; (try dsimp only at hSw); go_simp; with_reducible rfl)
            case' g2qr56 => try simp only [Act.put, List.setIfInBounds_toArray, List.set_cons_zero, List.set_cons_succ]
            refine wpAnyH_takeL (i := 57) (v := ?g2qv57) rfl (by kernel_rfl) (by kernel_rfl) (by kernel_rfl) (fun _ _ _ h => h) (Or.inl ⟨by rfl, ?g2qy57⟩) (by assumption) ?g2qr57
            case g2qy57 => first | (intro w hSw; (try dsimp only at hSw); go_simp; done) | (intro w hSw; (try dsimp only at hSw); go_simp; with_reducible rfl)
            case' g2qr57 => try simp only [Act.put, List.setIfInBounds_toArray, List.set_cons_zero, List.set_cons_succ]
            refine wpAnyH_takeL (i := 58) (v := ?g2qv58) rfl (by kernel_rfl) (by kernel_rfl) (by kernel_rfl) (fun _ _ _ h => h) (Or.inl ⟨by rfl, ?g2qy58⟩) (by assumption) ?g2qr58
            case g2qy58 => first | (intro w hSw; (try dsimp only at hSw); go_simp; done) | (intro w hSw; (try dsimp only at hSw); go_simp; with_reducible rfl)
            case' g2qr58 => try simp only [Act.put, List.setIfInBounds_toArray, List.set_cons_zero, List.set_cons_succ]
            refine wpAnyH_takeL (i := 59) (v := ?g2qv59) rfl (by kernel_rfl) (by kernel_rfl) (by kernel_rfl) (fun _ _ _ h => h) (Or.inl ⟨by rfl, ?g2qy59⟩) (by assumption) ?g2qr59
            case g2qy59 => first | (intro w hSw; (try dsimp only at hSw); go_simp; done) | (intro w hSw; (try dsimp only at hSw); go_simp; with_reducible rfl)
            case' g2qr59 => try simp only [Act.put, List.setIfInBounds_toArray, List.set_cons_zero, List.set_cons_succ]
            refine wpAnyH_takeL (i := 60) (v := ?g2qv60) rfl (by kernel_rfl) (by kernel_rfl) (by kernel_rfl) (fun _ _ _ h => h) (Or.inl ⟨by rfl, ?g2qy60⟩) (by assumption) ?g2qr60
            case g2qy60 => first | (intro w hSw; (try dsimp only at hSw); go_simp; done) | (intro w hSw; (try dsimp only at hSw); go_simp; with_reducible rfl)
            case' g2qr60 => try simp only [Act.put, List.setIfInBounds_toArray, List.set_cons_zero, List.set_cons_succ]
            refine wpAnyH_takeL (i := 61) (v := ?g2qv61) rfl (by kernel_rfl) (by kernel_rfl) (by kernel_rfl) (fun _ _ _ h => h) (Or.inl ⟨by rfl, ?g2qy61⟩) (by assumption) ?g2qr61
            case g2qy61 => first | (intro w hSw; (try dsimp only at hSw); go_simp; done) | (intro w hSw; (try dsimp only at hSw); go_simp; with_reducible rfl)
            case' g2qr61 => try simp only [Act.put, List.setIfInBounds_toArray, List.set_cons_zero, List.set_cons_succ]
            refine wpAnyH_takeL (i := 62) (v := ?g2qv62) rfl (by kernel_rfl) (by kernel_rfl) (by kernel_rfl) (fun _ _ _ h => h) (Or.inl ⟨by rfl, ?g2qy62⟩) (by assumption) ?g2qr62
            case g2qy62 => first | (intro w hSw; (try dsimp only at hSw); go_simp; done) | (intro w hSw; (try dsimp only at hSw); go_simp; with_reducible rfl)
            case' g2qr62 => try simp only [Act.put, List.setIfInBounds_toArray, List.set_cons_zero, List.set_cons_succ]
            refine wpAnyH_takeL (i := 63) (v := ?g2qv63) rfl (by kernel_rfl) (by kernel_rfl) (by kernel_rfl) (fun _ _ _ h => h) (Or.inl ⟨by rfl, ?g2qy63⟩) (by assumption) ?g2qr63
            case g2qy63 => first | (intro w hSw; (try dsimp only at hSw); go_simp; done) | (intro w hSw; (try dsimp only at hSw); go_simp; with_reducible rfl)
            case' g2qr63 => try simp only [Act.put, List.setIfInBounds_toArray, List.set_cons_zero, List.set_cons_succ]
            refine wpAnyH_takeL (i := 64) (v := ?g2qv64) rfl (by kernel_rfl) (by kernel_rfl) (by kernel_rfl) (fun _ _ _ h => h) (Or.inl ⟨by rfl, ?g2qy64⟩) (by assumption) ?g2qr64
            case g2qy64 => first | (intro w hSw; (try dsimp only at hSw); go_simp; done) | (intro w hSw; (try dsimp only at hSw); go_simp; with_reducible rfl)
            case' g2qr64 => try simp only [Act.put, List.setIfInBounds_toArray, List.set_cons_zero, List.set_cons_succ]
            refine wpAnyH_takeL (i := 65) (v := ?g2qv65) rfl (by kernel_rfl) (by kernel_rfl) (by kernel_rfl) (fun _ _ _ h => h) (Or.inl ⟨by rfl, ?g2qy65⟩) (by assumption) ?g2qr65
            case g2qy65 => first | (intro w hSw; (try dsimp only at hSw); go_simp; done) | (intro w hSw; (try dsimp only at hSw); go_simp; with_reducible rfl)
            case' g2qr65 => try simp only [Act.put, List.setIfInBounds_toArray, List.set_cons_zero, List.set_cons_succ]
            refine wpAnyH_takeL (i := 66) (v := ?g2qv66) rfl (by kernel_rfl) (by kernel_rfl) (by kernel_rfl) (fun _ _ _ h => h) (Or.inl ⟨by rfl, ?g2qy66⟩) (by assumption) ?g2qr66
            case g2qy66 => first | (intro w hSw; (try dsimp only at hSw); go_simp; done) | (intro w hSw; (try dsimp only at hSw); go_simp; with_reducible rfl)
            case' g2qr66 => try simp only [Act.put, List.setIfInBounds_toArray, List.set_cons_zero, List.set_cons_succ]
            refine wpAnyH_takeL (i := 67) (v := ?g2qv67) rfl (by kernel_rfl) (by kernel_rfl) (by kernel_rfl) (fun _ _ _ h => h) (Or.inl ⟨by rfl, ?g2qy67⟩) (by assumption) ?g2qr67
            case g2qy67 => first | (intro w hSw; (try dsimp only at hSw); go_simp; done) | (intro w hSw; (try dsimp only at hSw); go_simp; with_reducible rfl)
            case' g2qr67 => try simp only [Act.put, List.setIfInBounds_toArray, List.set_cons_zero, List.set_cons_succ]
            refine wpAnyH_takeL (i := 68) (v := ?g2qv68) rfl (by kernel_rfl) (by kernel_rfl) (by kernel_rfl) (fun _ _ _ h => h) (Or.inl ⟨by rfl, ?g2qy68⟩) (by assumption) ?g2qr68
            case g2qy68 => first | (intro w hSw; (try dsimp only at hSw); go_simp; done) | (intro w hSw; (try dsimp only at hSw); go_simp; with_reducible rfl)
            case' g2qr68 => try simp only [Act.put, List.setIfInBounds_toArray, List.set_cons_zero, List.set_cons_succ]
            refine wpAnyH_takeL (i := 70) (v := ?g2qv70) rfl (by kernel_rfl) (by kernel_rfl) (by kernel_rfl) (fun _ _ _ h => h) (Or.inl ⟨by rfl, ?g2qy70⟩) (by assumption) ?g2qr70
            case g2qy70 => first | (intro w hSw; (try dsimp only at hSw); go_simp; done) | (intro w hSw; (try dsimp only at hSw); go_simp; with_reducible rfl)
            case' g2qr70 => try simp only [Act.put, List.setIfInBounds_toArray, List.set_cons_zero, List.set_cons_succ]
            refine wpAnyH_takeL (i := 71) (v := ?g2qv71) rfl (by kernel_rfl) (by kernel_rfl) (by kernel_rfl) (fun _ _ _ h => h) (Or.inl ⟨by rfl, ?g2qy71⟩) (by assumption) ?g2qr71
            case g2qy71 => first | (intro w hSw; (try dsimp only at hSw); go_simp; done) | (intro w hSw; (try dsimp only at hSw); go_simp; with_reducible rfl)
            case' g2qr71 => try simp only [Act.put, List.setIfInBounds_toArray, List.set_cons_zero, List.set_cons_succ]
            refine wpAnyH_takeL (i := 72) (v := ?g2qv72) rfl (by kernel_rfl) (by kernel_rfl) (by kernel_rfl) (fun _ _ _ h => h) (Or.inl ⟨by rfl, ?g2qy72⟩) (by assumption) ?g2qr72
            case g2qy72 => first | (intro w hSw; (try dsimp only at hSw); go_simp; done) | (intro w hSw; (try dsimp only at hSw); go_simp; with_reducible rfl)
            case' g2qr72 => try simp only [Act.put, List.setIfInBounds_toArray, List.set_cons_zero, List.set_cons_succ]
            refine wpAnyH_takeL (i := 73) (v := ?g2qv73) rfl (by kernel_rfl) (by kernel_rfl) (by kernel_rfl) (fun _ _ _ h => h) (Or.inl ⟨by rfl, ?g2qy73⟩) (by assumption) ?g2qr73
            case g2qy73 => first | (intro w hSw; (try dsimp only at hSw); go_simp; done) | (intro w hSw; (try dsimp only at hSw); go_simp; with_reducible rfl)
            case' g2qr73 => try simp only [Act.put, List.setIfInBounds_toArray, List.set_cons_zero, List.set_cons_succ]
            refine wpAnyH_takeL (i := 74) (v := ?g2qv74) rfl (by kernel_rfl) (by kernel_rfl) (by kernel_rfl) (fun _ _ _ h => h) (Or.inl ⟨by rfl, ?g2qy74⟩) (by assumption) ?g2qr74
            case g2qy74 => first | (intro w hSw; (try dsimp only at hSw); go_simp; done) | (intro w hSw; (try dsimp only at hSw); go_simp; with_reducible rfl)
            case' g2qr74 => try simp only [Act.put, List.setIfInBounds_toArray, List.set_cons_zero, List.set_cons_succ]
            refine wpAnyH_takeL (i := 75) (v := ?g2qv75) rfl (by kernel_rfl) (by kernel_rfl) (by kernel_rfl) (fun _ _ _ h => h) (Or.inl ⟨by rfl, ?g2qy75⟩) (by assumption) ?g2qr75
            case g2qy75 => first | (intro w hSw; (try dsimp only at hSw); go_simp; done) | (intro w hSw; (try dsimp only at hSw); go_simp; with_reducible rfl)
            case' g2qr75 => try simp only [Act.put, List.setIfInBounds_toArray, List.set_cons_zero, List.set_cons_succ]
            refine wpAnyH_takeL (i := 76) (v := ?g2qv76) rfl (by kernel_rfl) (by kernel_rfl) (by kernel_rfl) (fun _ _ _ h => h) (Or.inl ⟨by rfl, ?g2qy76⟩) (by assumption) ?g2qr76
            case g2qy76 => first | (intro w hSw; (try dsimp only at hSw); go_simp; done) | (intro w hSw; (try dsimp only at hSw); go_simp; with_reducible rfl)
            case' g2qr76 => try simp only [Act.put, List.setIfInBounds_toArray, List.set_cons_zero, List.set_cons_succ]
            refine wpAnyH_takeL (i := 77) (v := ?g2qv77) rfl (by kernel_rfl) (by kernel_rfl) (by kernel_rfl) (fun _ _ _ h => h) (Or.inl ⟨by rfl, ?g2qy77⟩) (by assumption) ?g2qr77
            case g2qy77 => first | (intro w hSw; (try dsimp only at hSw); go_simp; done) | (intro w hSw; (try dsimp only at hSw); go_simp; with_reducible rfl)
            case' g2qr77 => try simp only [Act.put, List.setIfInBounds_toArray, List.set_cons_zero, List.set_cons_succ]
            refine wpAnyH_takeL (i := 78) (v := ?g2qv78) rfl (by kernel_rfl) (by kernel_rfl) (by kernel_rfl) (fun _ _ _ h => h) (Or.inl ⟨by rfl, ?g2qy78⟩) (by assumption) ?g2qr78
            case g2qy78 => first | (intro w hSw; (try dsimp only at hSw); go_simp; done) | (intro w hSw; (try dsimp only at hSw); go_simp; with_reducible rfl)
            case' g2qr78 => try simp only [Act.put, List.setIfInBounds_toArray, List.set_cons_zero, List.set_cons_succ]
            refine wpAnyH_takeL (i := 79) (v := ?g2qv79) rfl (by kernel_rfl) (by kernel_rfl) (by kernel_rfl) (fun _ _ _ h => h) (Or.inl ⟨by rfl, ?g2qy79⟩) (by assumption) ?g2qr79
            case g2qy79 => first | (intro w hSw; (try dsimp only at hSw); go_simp; done) | (intro w hSw; (try dsimp only at hSw); go_simp; with_reducible rfl)
            case' g2qr79 => try simp only [Act.put, List.setIfInBounds_toArray, List.set_cons_zero, List.set_cons_succ]
            refine wpAnyH_takeL (i := 80) (v := ?g2qv80) rfl (by kernel_rfl) (by kernel_rfl) (by kernel_rfl) (fun _ _ _ h => h) (Or.inl ⟨by rfl, ?g2qy80⟩) (by assumption) ?g2qr80
            case g2qy80 => first | (intro w hSw; (try dsimp only at hSw); go_simp; done) | (intro w hSw; (try dsimp only at hSw); go_simp; with_reducible rfl)
            case' g2qr80 => try simp only [Act.put, List.setIfInBounds_toArray, List.set_cons_zero, List.set_cons_succ]
            refine wpAnyH_takeL (i := 81) (v := ?g2qv81) rfl (by kernel_rfl) (by kernel_rfl) (by kernel_rfl) (fun _ _ _ h => h) (Or.inl ⟨by rfl, ?g2qy81⟩) (by assumption) ?g2qr81
            case g2qy81 => first | (intro w hSw; (try dsimp only at hSw); go_simp; done) | (intro w hSw; (try dsimp only at hSw); go_simp; with_reducible rfl)
            case' g2qr81 => try simp only [Act.put, List.setIfInBounds_toArray, List.set_cons_zero, List.set_cons_succ]
            refine wpAnyH_takeL (i := 82) (v := ?g2qv82) rfl (by kernel_rfl) (by kernel_rfl) (by kernel_rfl) (fun _ _ _ h => h) (Or.inl ⟨by rfl, ?g2qy82⟩) (by assumption) ?g2qr82
            case g2qy82 => first | (intro w hSw; (try dsimp only at hSw); go_simp; done) | (intro w hSw; (try dsimp only at hSw); go_simp; with_reducible rfl)
            case' g2qr82 => try simp only [Act.put, List.setIfInBounds_toArray, List.set_cons_zero, List.set_cons_succ]
            refine wpAnyH_takeL (i := 83) (v := ?g2qv83) rfl (by kernel_rfl) (by kernel_rfl) (by kernel_rfl) (fun _ _ _ h => h) (Or.inl ⟨by rfl, ?g2qy83⟩) (by assumption) ?g2qr83
            case g2qy83 => first | (intro w hSw; (try dsimp only at hSw); go_simp; done) | (intro w hSw; (try dsimp only at hSw); go_simp; with_reducible rfl)
            case' g2qr83 => try simp only [Act.put, List.setIfInBounds_toArray, List.set_cons_zero, List.set_cons_succ]
            refine wpAnyH_ready (rs := [69]) (by kernel_rfl) (by simp) ?_
            refine AllReadyH.consL rfl (fun K hK => ?_) AllReadyH.nil
            go_simp
            go_at_call 48
            refine (HNX.out _).mono ?_
            rintro e w5 ⟨rfl, hx5⟩
            have HX5 := hid hx5.drew_left
            clear hx5
            refine hK.out _ _ ⟨HX5.out.cell q0, ⟨HX5.out.cell z0, HX5.out.cell z1, HX5.out.cell z2, HX5.out.cell z3, HX5.out.cell z4, HX5.out.cell z5, HX5.out.cell z6, HX5.out.cell z7, HX5.out.cell z8⟩, HX5.out.cell v0, HX5.out.cell v8⟩ (fun hSg2q1 => ?_)
            clear hK K
            try simp only [Act.put, List.setIfInBounds_toArray, List.set_cons_zero, List.set_cons_succ]
            refine wpAnyH_takeL (i := 84) (v := ?g2qv84) rfl (by kernel_rfl) (by kernel_rfl) (by kernel_rfl) (fun _ _ _ h => h) (Or.inl ⟨by rfl, ?g2qy84⟩) (by assumption) ?g2qr84
            case g2qy84 => first | (intro w hSw; (try dsimp only at hSw); go_simp; done) | (intro w hSw; (try dsimp only at hSw); go_simp; with_reducible rfl)
            case' g2qr84 => try simp only [Act.put, List.setIfInBounds_toArray, List.set_cons_zero, List.set_cons_succ]
            refine wpAnyH_takeL (i := 85) (v := ?g2qv85) rfl (by kernel_rfl) (by kernel_rfl) (by kernel_rfl) (fun _ _ _ h => h) (Or.inl ⟨by rfl, ?g2qy85⟩) (by assumption) ?g2qr85
            case g2qy85 => first | (intro w hSw; (try dsimp only at hSw); go_simp; done) | (intro w hSw; (try dsimp only at hSw); go_simp; with_reducible rfl)
            case' g2qr85 => try simp only [Act.put, List.setIfInBounds_toArray, List.set_cons_zero, List.set_cons_succ]
            refine wpAnyH_done (by kernel_rfl) ?_ _
            go_wp2
            go_meet
            exact ⟨neq, rfl, HX5, hid (fun h => HP.out.step HI.out (by omega) (by omega) (HNE.out h) HOV.out)⟩
      case rest =>
        obtain ⟨bad, rfl, hx5, hpl⟩ := hcut
        cases bad with
        | true =>
          go_wp2
          go_ret
          exact ⟨false, rfl, HE.out.trans (HX.out.trans hx5.out), fun h => by cases h⟩
        | false =>
          have HX6 := hid (HX.out.trans hx5.out)
          have HP6 := hid (hpl.out rfl)
          go_wp2
          first
            | go_roundw
            | refine ⟨?rel, ?measure⟩
          case rel => exact ⟨j + 1, by omega, by go_num, HX6, HP6⟩
          case measure => simp [intOf]; omega
    · obtain rfl : j = n := by omega
      go_wp2
      go_ret
      exact ⟨true, rfl, HE.out.trans HX.out, fun _ => PlTo.all (by rw [← HLN.out]; exact HP.out)⟩
end Go.Proofs.Ytolbnhkdpbdhhaa
