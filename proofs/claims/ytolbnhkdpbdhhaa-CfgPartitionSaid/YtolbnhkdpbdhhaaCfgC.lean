/- cfg: the iterator 'candidates'. -/
import Derived.Test.YtolbnhkdpbdhhaaCfgB
import Derived.Test.YtolbnhkdpbdhhaaIsaF
import Derived.Test.YtolbnhkdpbdhhaaIsaG
import Derived.Test.YtolbnhkdpbdhhaaMapI
import Derived.RangeFuncNested
import Derived.RangeFuncBound
import Derived.RangeFuncCalls
import Derived.RangeFuncLeaves
import Derived.Shelf.Abstract
import Derived.Shelf.RegionOpen
import Derived.WalkKit
import Derived.OwnWalkIn
import Derived.TacticsInMore
import Derived.LoopNIn
import Derived.LoopIn
namespace Go.Proofs.Ytolbnhkdpbdhhaa
open Go Go.RowKit Go.Deco Go.Shelf
set_option linter.unusedSimpArgs false
set_option linter.unusedVariables false
attribute [local go_sem] Oper.semAt_some

abbrev U32n := { x : Nat // x < 4294967296 }
def encN (x : U32n) : Array Value := #[.int .u32 x.1]
/-- What a round keeps: what lay below n₀; the walks; boxes that are neither numbers nor slices of numbers. -/
structure Kp17 (n₀ : Nat) (W W' : World) : Prop where
  below : Below n₀ W W'
  walks : KeepsWalks W W'
  box : ∀ (b : Nat) cur t g, W.heap[b]? = some (.cells cur t g) → t ≠ 39 → t ≠ 23 → W'.heap[b]? = some (.cells cur t g)
theorem Kp17.trans {n₀ : Nat} {A B C : World} (h : Kp17 n₀ A B) (k : Kp17 n₀ B C) : Kp17 n₀ A C :=
  ⟨h.below.trans k.below, h.walks.trans k.walks, fun b cur t g hb h1 h2 => k.box b cur t g (h.box b cur t g hb h1 h2) h1 h2⟩
theorem Kp17.book {n₀ : Nat} {w : World} (hn : n₀ ≤ w.heap.size) (W : World) (l : Nat) (o o' : Obj) (hl : w.heap.size ≤ l) (h : W.heap[l]? = some o) (hc : o.isCells = false) (hw : o.isWalk = false) : Kp17 n₀ W (W.putObj l o') :=
  ⟨belowK_b hn W l o o' hl h hc hw, KeepsWalks.putObj _ h hw, fun b cur t g hb _ _ => by
    have hne : b ≠ l := by
      rintro rfl
      rw [h] at hb
      cases hb
      cases hc
    exact (World.putObj_heap_other hne).trans hb⟩
theorem Kp17.refl (n₀ : Nat) (W : World) : Kp17 n₀ W W := ⟨Below.refl _ _, KeepsWalks.refl _, fun _ _ _ _ h _ _ => h⟩
theorem code_cells {W : World} {b : Nat} {v0 v1 v2 : Value} {t : TypeId} (h : W.heap[b]? = some (.cells #[v0, v1, v2] t (0, 0))) : W.cell? ⟨b, 0, none⟩ = some v0 ∧ W.cell? ⟨b, 1, none⟩ = some v1 ∧ W.cell? ⟨b, 2, none⟩ = some v2 := by
  refine ⟨?_, ?_, ?_⟩ <;> simp [World.cell?, h]
theorem box_cells {W : World} {b : Nat} {i : In} {t : TypeId} (h : W.heap[b]? = some (.cells #[.int .u32 i.addr, .int .u32 i.imm, .int .i64 i.op, .int .i64 i.form, .int .i64 i.width, .int .i64 i.cc, .int .i64 i.a, .int .i64 i.b, .int .i64 i.size] t (0, 0))) : Box9 W b i := by
  constructor <;> simp [World.cell?, h]
theorem ext_heap {w w' : World} {b : Nat} {o : Obj} (he : Ext w w') (h : w.heap[b]? = some o) : w'.heap[b]? = some o :=
  ((he.grownBy none).block b (Array.getElem?_eq_some_iff.1 h).1 (by simp)).trans h
theorem nextI_lt (i : In) : nextI i < 4294967296 := by unfold nextI w32d; omega
theorem MapG.at {P : Program} {k : TypeId} {κ : Type} {G : KeyG P k κ} {w w' : World} {b n : Nat} {f : κ → Option Value} (h : MapG G w b n f) (hb : w'.heap[b]? = w.heap[b]?) : MapG G w' b n f := by
  obtain ⟨D, ⟨es, clock, h1, h2⟩, h3⟩ := h
  exact ⟨D, ⟨es, clock, hb.trans h1, h2⟩, h3⟩
theorem Kp17.step {n₀ : Nat} {W A B : World} {row : Option Nat} (h : Kp17 n₀ W A) (hg : A.grownBy B row) (hn : n₀ ≤ W.heap.size) (hr : ∀ r, row = some r → W.heap.size ≤ r) : Kp17 n₀ W B := by
  have hb : ∀ b, b < W.heap.size → B.heap[b]? = A.heap[b]? := fun b hlt => hg.block b (Nat.lt_of_lt_of_le hlt h.below.size) (fun e => by have := hr b e.symm; omega)
  refine ⟨h.below.grown hg (Nat.le_trans hn h.below.size) (fun k e => Nat.le_trans hn (hr k e)), ⟨Nat.le_trans h.walks.size hg.size, fun k o hk hw => (hb k (Array.getElem?_eq_some_iff.1 hk).1).trans (h.walks.same k o hk hw)⟩, fun b cur t g hc h1 h2 => (hb b (Array.getElem?_eq_some_iff.1 hc).1).trans (h.box b cur t g hc h1 h2)⟩
theorem Kp17.ext {n₀ : Nat} {W A B : World} (h : Kp17 n₀ W A) (he : Ext A B) (hn : n₀ ≤ W.heap.size) : Kp17 n₀ W B := h.step (he.grownBy none) hn (fun r e => by cases e)
theorem RangeG.walk_obj {P : Program} {k : TypeId} {κ : Type} {G : KeyG P k κ} {w : World} {b r n : Nat} {f : κ → Option Value} {left : κ → Bool} {cnt : Nat} (h : RangeG G w b r n f left cnt) : ∃ o : Obj, w.heap[r]? = some o ∧ o.isWalk = true := by
  obtain ⟨D, lf, h1, h2, h3⟩ := h
  exact h1.iter_walk
/-- What has come: the entries, and the candidates of the instructions that are no longer left. -/
def CameIs (ins : List In) (entries : List Nat) (tabs : List (List Nat)) (at_ : List Nat) (left : Nat → Bool) (ys : List Nat) : Prop :=
  ∀ x, x ∈ ys ↔ x ∈ entries ∨ ∃ a i, left a = false ∧ firstIn ins a = some i ∧ x ∈ candI tabs at_ i
theorem came_start {ins : List In} {entries : List Nat} {tabs : List (List Nat)} {at_ : List Nat} : CameIs ins entries tabs at_ (fun x => (insF ins x).isSome) entries := fun x => by
  constructor
  · exact .inl
  · rintro (h | ⟨a, i, h1, h2, -⟩)
    · exact h
    · simp [insF, h2] at h1
theorem came_step {ins : List In} {entries : List Nat} {tabs : List (List Nat)} {at_ : List Nat} {left : Nat → Bool} {ys : List Nat} {a : Nat} {i : In} (h : CameIs ins entries tabs at_ left ys) (ha : firstIn ins a = some i) :
    CameIs ins entries tabs at_ (fun j => left j && !decide (j = a)) (ys ++ candI tabs at_ i) := fun x => by
  rw [List.mem_append, h x]
  constructor
  · rintro ((h | ⟨b, j, h1, h2, h3⟩) | h)
    · exact .inl h
    · exact .inr ⟨b, j, by simp [h1], h2, h3⟩
    · exact .inr ⟨a, i, by simp, ha, h⟩
  · rintro (h | ⟨b, j, h1, h2, h3⟩)
    · exact .inl (.inl h)
    · by_cases e : b = a
      · subst e
        rw [ha] at h2
        cases h2
        exact .inr h3
      · simp [e] at h1
        exact .inl (.inr ⟨b, j, h1, h2, h3⟩)
theorem came_end {ins : List In} {entries : List Nat} {tabs : List (List Nat)} {at_ : List Nat} {left : Nat → Bool} {ys : List Nat} (h : CameIs ins entries tabs at_ left ys) (hok : ∀ i ∈ ins, InOk i) (hl : ∀ x, x < 4294967296 → left x = false) :
    ∀ x, x ∈ ys ↔ Cand ins entries tabs at_ x := fun x => by
  rw [h x]
  constructor
  · rintro (h | ⟨a, i, h1, h2, h3⟩)
    · exact .inl h
    · exact .inr ⟨a, i, h2, h3⟩
  · rintro (h | ⟨a, i, h2, h3⟩)
    · exact .inl h
    · obtain ⟨e, hm⟩ := firstIn_addr h2
      exact .inr ⟨a, i, hl a (by rw [← e]; exact (hok i hm).1), h2, h3⟩
theorem tgt_len {tabs : List (List Nat)} {at_ : List Nat} {i : In} (h : ∀ t ∈ tabs, t.length ≤ 1000) : (tgtI tabs at_ i).length ≤ 1000 := by
  unfold tgtI
  split
  · simp
  · split
    · unfold tabOf
      split
      · rename_i k _
        cases hk : tabs[k]? with
        | none => simp
        | some t => exact h t (List.mem_of_getElem? hk)
      · simp
    · simp
theorem ext_J {J : List U32n → World → Prop} {B : Nat} (hJ : AbidesFrom B J) {pre : List U32n} {w w' : World} (h : J pre w) (he : Ext w w') : J pre w' :=
  hJ pre w w' none h (he.grownBy none) (fun r e => by cases e)

set_option maxRecDepth 100000 in
set_option maxHeartbeats 4000000 in
theorem cand_in (n : Nat) (hn : 1 ≤ n) (l Be Bc n₀ mb q : Nat) (E T Q : Option Addr) (ne ce nt ct nq cq : Nat) (entries : List Nat) (ins : List In) (tabs : List (List Nat)) (at_ : List Nat) (N : Nat) (J Jx : List U32n → World → Prop) (W : World)
    (hY : ∀ pre x W1, J pre W1 → pre.length < N → YieldAt Fence.wide (n - 1) Try.prog l (encN x) W1 fun e W' =>
      (e = .returned (.bool true) ∧ J (pre ++ [x]) W' ∧ Kp17 n₀ W1 W') ∨ (e = .returned (.bool false) ∧ Jx (pre ++ [x]) W'))
    (hJ : AbidesFrom W.heap.size J) (h0 : J [] W) (hn0 : n₀ ≤ W.heap.size) (hmb : mb < n₀)
    (hbe : W.cell? ⟨Be, 0, none⟩ = some (.slice E ne ce)) (hbc : W.heap[Bc]? = some (.cells #[.map (some mb), .slice T nt ct, .slice Q nq cq] 65 (0, 0)))
    (hm : MapG (u32K Try.underlying39) W mb q (insF ins)) (he : Sl u32R W (fun b => b < n₀) (.slice E ne ce) entries) (ht : Sl u32sR W (fun b => b < n₀) (.slice T nt ct) tabs) (hq : Sl u32R W (fun b => b < n₀) (.slice Q nq cq) at_) (hnq : nq ≤ 9223372036854775807)
    (hok : ∀ i ∈ ins, InOk i) (hN : ne + q * 1001 ≤ N) (hne : ne ≤ 1000000) (htl : ∀ t ∈ tabs, t.length ≤ 1000) :
    CallsIn Fence.wide n Try.prog 61 #[.func (.yield l) #[] #[], .pointer (some ⟨Be, 0, none⟩), .pointer (some ⟨Bc, 0, none⟩)] W fun e W' => (∃ v, e = .returned v) ∧
      ((∃ ys : List U32n, ((∀ x, x ∈ ys.map Subtype.val ↔ Cand ins entries tabs at_ x) ∧ ys.length ≤ N) ∧ J ys W') ∨ (∃ pre : List U32n, True ∧ Jx pre W')) := by
  have HLE := hid he.len
  have HE := hid he
  have HT := hid ht
  have HQ := hid hq
  have HM := hid hm
  have HBC := hid hbc
  have HOK := hid hok
  have HN := hid hN
  have HTL := hid htl
  have HY := hid hY
  have HJ := hid hJ
  have hcap := he.cap
  have HJ0 := hid h0
  clear he ht hq hm hbc hok hN htl hY hJ h0
  refine callsIn_of_wp Try.func61 rfl trivial ?_ rfl
  simp only [Try.ntmps61, List.size_toArray, List.length_cons, List.length_nil, Nat.reduceAdd, Nat.reduceSub, Array.replicate_succ, Array.replicate_zero, List.push_toArray, List.append_toArray, List.nil_append, List.cons_append]
  gi_wp2
  gi_loopw [12] (fun i wr => ∃ (k : Nat) (pre : List U32n), k ≤ ne ∧ i = .int .i64 k ∧ pre.map Subtype.val = entries.take k ∧ Hid (J pre wr) ∧ Hid (Kp17 n₀ W wr)) (fun i _ => ne - (intOf i).toNat)
  case atStart => exact ⟨0, [], by omega, rfl, rfl, HJ0, hid (Kp17.refl _ _)⟩
  case round =>
    obtain ⟨k, pre, hk, rfl, hpre, HJr, HK⟩ := hrel
    have HPRE := hid hpre
    have hpl : pre.length ≤ ne := by have := congrArg List.length hpre; simp at this; omega
    clear hpre
    by_cases h1 : k < ne
    · obtain ⟨x, hx⟩ : ∃ x, entries[k]? = some x := ⟨_, List.getElem?_eq_getElem (by have := HLE.out; omega)⟩
      obtain ⟨b, off, rfl, c0, hx32⟩ := Sl.num_at (HE.out.keep (fun b hb _ => HK.out.below.block b hb)) hx
      have HX := hid hx
      have hpl2 : pre.length ≤ k := by have := congrArg List.length HPRE.out; simp at this; omega
      obtain ⟨fn, tmps, assign, body, hy, hR⟩ := HY.out pre ⟨x, hx32⟩ wr HJr.out (by have := HN.out; omega)
      dsimp only [encN] at hy
      clear hx
      gi_wp2
      refine hR.mono ?_
      rintro e W3 (⟨rfl, hJ3, hk3⟩ | ⟨rfl, hJx3⟩)
      · have HJ3 := hid hJ3
        have HK3 := hid (HK.out.trans hk3)
        clear hJ3 hk3 hy hR
        gi_wp2
        first
          | go_roundw
          | refine ⟨?rel, ?measure⟩
        case rel => exact ⟨k + 1, pre ++ [⟨x, hx32⟩], by omega, by go_num, by rw [List.map_append, HPRE.out, take_snoc' HX.out]; rfl, HJ3, HK3⟩
        case measure => simp [intOf]; omega
      · have HJX := hid hJx3
        clear hJx3 hy hR
        gi_wp2
        refine bodyPost_ret (results_none rfl _ _ _) rfl ?_
        exact ⟨⟨_, rfl⟩, .inr ⟨_, trivial, HJX.out⟩⟩
    · obtain rfl : k = ne := by omega
      have hbc := HK.out.box Bc _ _ _ HBC.out (by decide) (by decide)
      have HBCr := hid hbc
      obtain ⟨b0, b1, b2⟩ := code_cells hbc
      clear hbc
      have HMr := hid (MapG.at HM.out (HK.out.below.block mb hmb))
      obtain ⟨V, hV⟩ : ∃ V, V = wr := ⟨_, rfl⟩
      obtain rfl := hV
      gi_wp2_with (first
        | (gi_at_range; refine wpListIn_rangeG _ rfl (.tmp 22) 63 rfl 61 Try.underlying63 (u32K Try.underlying39) mb q (insF ins) rfl HMr.out ?_; intro w0 cnt0 hc0 hrg0 hg0 hs0)
        | fail)
      have HJ1 := hid (HJ.out _ _ _ none HJr.out hg0 (fun r e => by cases e))
      have HK1 := hid (HK.out.step hg0 hn0 (fun r e => by cases e))
      have HRG := hid hrg0
      have hvs : W.heap.size ≤ V.heap.size := HK.out.below.size
      clear hrg0 hg0 hs0 b0 b1 b2
      go_frame
      gi_loopw [7] (fun _ wr => ∃ (left : Nat → Bool) (cnt : Nat) (pre : List U32n), cnt ≤ q ∧ pre.length + cnt * 1001 ≤ k + q * 1001 ∧ Hid (RangeG (u32K Try.underlying39) wr mb V.heap.size q (insF ins) left cnt) ∧ Hid (CameIs ins entries tabs at_ left (pre.map Subtype.val)) ∧ Hid (J pre wr) ∧ Hid (Kp17 n₀ W wr)) (fun _ wr => wr.rangeLeft mb V.heap.size)
      case atStart =>
        refine ⟨_, cnt0, pre, hc0, by omega, HRG, hid ?_, HJ1, HK1⟩
        rw [HPRE.out, List.take_of_length_le (by have := HLE.out; omega)]
        exact came_start
      case round =>
        obtain ⟨left, cnt, pre, hcq, hpn, HRG, HCA, HJr, HK⟩ := hrel
        gi_wp2_with (first
          | (gi_at_next; refine wpListIn_nextU _ rfl _ rfl Try.underlying39 mb V.heap.size q (insF ins) left cnt rfl HRG.out ?_ ?_)
          | fail)
        · intro hc1 hl1
          have HL1 := hid hl1
          have HPN : Hid (pre.length ≤ N) := hid (by have := HN.out; omega)
          clear hl1 hc1
          gi_wp2
          go_end0
          exact ⟨⟨_, rfl⟩, .inl ⟨pre, ⟨came_end HCA.out HOK.out HL1.out, HPN.out⟩, HJr.out⟩⟩
        · intro x v w2 cnt2 hx32 hlk hfx hrg2 hlt2 hg2 hs2 hen
          obtain ⟨i, hi, rfl⟩ : ∃ i, firstIn ins x = some i ∧ inV i = v := by
            unfold insF at hfx
            cases hf : firstIn ins x with
            | none => rw [hf] at hfx; cases hfx
            | some i => rw [hf] at hfx; exact ⟨i, rfl, by injection hfx⟩
          have hiok := HOK.out i (firstIn_addr hi).2
          obtain ⟨hd, hdo, hdw⟩ := RangeG.walk_obj HRG.out
          have HJ2 := hid (HJ.out _ _ _ (some V.heap.size) HJr.out hg2 (fun r e => by cases e; exact ⟨hvs, hd, hdo, hdw⟩))
          have HK2 := hid (HK.out.step hg2 hn0 (fun r e => by cases e; exact hvs))
          have HRG2 := hid hrg2
          have HI := hid hi
          have HIOK := hid hiok
          have HSZ := hid hlt2
          unfold inV at hen
          obtain ⟨W2, hW2⟩ : ∃ W2, w2.alloc (.cells #[.int .u32 i.addr, .int .u32 i.imm, .int .i64 i.op, .int .i64 i.form, .int .i64 i.width, .int .i64 i.cc, .int .i64 i.a, .int .i64 i.b, .int .i64 i.size] 61) = W2 := ⟨_, rfl⟩
          have hE2 : Ext w2 W2 := by rw [← hW2]; exact (Ext.refl w2).alloc _
          have ho2 : W2.heap[w2.heap.size]? = some (.cells #[.int .u32 i.addr, .int .u32 i.imm, .int .i64 i.op, .int .i64 i.form, .int .i64 i.width, .int .i64 i.cc, .int .i64 i.a, .int .i64 i.b, .int .i64 i.size] 61 (0, 0)) := by rw [← hW2]; exact World.alloc_heap_new w2 _
          have hB2 : Box9 W2 w2.heap.size i := by rw [← hW2]; exact Box9.new w2 i _
          have HO2 := hid ho2
          have HJ2' := hid (ext_J HJ.out HJ2.out hE2)
          have HK2' := hid (HK2.out.ext hE2 hn0)
          have HRG2' := hid (HRG2.out.ext hE2)
          have hbc := HK2'.out.box Bc _ _ _ HBC.out (by decide) (by decide)
          obtain ⟨b0, b1, b2⟩ := code_cells hbc
          obtain ⟨c0, c1, c2, c3, c4, c5, c6, c7, c8⟩ := hB2
          have htg := targets_any (fun b => b < n₀) W2 (some mb) T Q nt ct nq cq tabs at_ (HT.out.keep (fun b hb _ => HK2'.out.below.block b hb)) (HQ.out.keep (fun b hb _ => HK2'.out.below.block b hb)) hnq i HIOK.out
          obtain ⟨L, hL⟩ : ∃ L, tgtI tabs at_ i = L := ⟨_, rfl⟩
          rw [hL] at htg
          have HL := hid hL
          have HTG := hid htg
          clear hfx hrg2 hg2 hi hiok hdo hdw hE2 ho2 hbc htg hL hlt2 hs2
          gi_wp2
          refine ⟨trivial, (callsIn_wide.2 HTG.out).mono ?_⟩
          rintro e w3 ⟨hx3, AL, cL, rfl, hsl3, hslB⟩
          have HX3 := hid hx3
          have HJ3 := hid (ext_J HJ.out HJ2'.out hx3)
          have HK3 := hid (HK2'.out.ext hx3 hn0)
          have HRG3 := hid (HRG2'.out.ext hx3)
          have HO3 := hid (ext_heap hx3 HO2.out)
          have HSL3 := hid hsl3
          have HSB := hid hslB
          have hLl : L.length ≤ 1000 := by rw [← HL.out]; exact tgt_len HTL.out
          have hLc := hsl3.cap
          obtain ⟨W3, hW3⟩ : ∃ V, V = w3 := ⟨_, rfl⟩
          obtain rfl := hW3
          clear hx3 hsl3 hslB c0 c1 c2 c3 c4 c5 c6 c7 c8 b0 b1 b2 hW2 hen
          gi_wp2
          gi_loopw [32] (fun j wr3 => ∃ (k3 : Nat) (pre3 : List U32n), k3 ≤ L.length ∧ j = .int .i64 k3 ∧ Hid (pre3.map Subtype.val = pre.map Subtype.val ++ L.take k3) ∧ Hid (J pre3 wr3) ∧ Hid (Kp17 n₀ W3 wr3) ∧ Hid (k3 = 0 → Sl u32R wr3 All (.slice AL L.length cL) L)) (fun j _ => L.length - (intOf j).toNat)
          case atStart => exact ⟨0, pre, by omega, rfl, hid (by simp), HJ3, hid (Kp17.refl _ _), hid fun _ => HSL3.out⟩
          case round =>
            obtain ⟨k3, pre3, hk3, rfl, HP3, HJ4, HK4, HR4⟩ := hrel
            have hpl3 : pre3.length = pre.length + k3 := by have := congrArg List.length HP3.out; simp at this; omega
            have hsz := HSZ.out
            by_cases h3 : k3 < L.length
            · obtain ⟨y, hy3⟩ : ∃ y, L[k3]? = some y := ⟨_, List.getElem?_eq_getElem h3⟩
              have hrow : Sl u32R wr All (.slice AL L.length cL) L := by
                rcases HSB.out with ⟨-, e⟩ | hs
                · refine HR4.out ?_
                  have : L.length = 1 := by rw [e]; rfl
                  omega
                · exact ((hs.ext HX3.out).keep (fun b hb _ => HK4.out.below.block b hb)).all
              obtain ⟨b3, off3, rfl, d0, hy32⟩ := Sl.num_at hrow hy3
              have HY3 := hid hy3
              obtain ⟨fn, tmps, assign, body, hyy, hR⟩ := HY.out pre3 ⟨y, hy32⟩ wr HJ4.out (by have := HN.out; omega)
              dsimp only [encN] at hyy
              clear hy3 hrow
              gi_wp2
              refine hR.mono ?_
              rintro e W5 (⟨rfl, hJ5, hk5⟩ | ⟨rfl, hJx5⟩)
              · have HJ5 := hid hJ5
                have HK5 := hid (HK4.out.trans hk5)
                clear hJ5 hk5 hyy hR
                gi_wp2
                first
                  | go_roundw
                  | refine ⟨?rel, ?measure⟩
                case rel => exact ⟨k3 + 1, pre3 ++ [⟨y, hy32⟩], by omega, by go_num, hid (by rw [List.map_append, HP3.out, take_snoc' HY3.out, List.append_assoc]; rfl), HJ5, HK5, hid (fun h => by omega)⟩
                case measure => simp [intOf]; omega
              · have HJX := hid hJx5
                clear hJx5 hyy hR
                gi_wp2
                refine bodyPost_ret (results_none rfl _ _ _) rfl ?_
                exact ⟨⟨_, rfl⟩, .inr ⟨_, trivial, HJX.out⟩⟩
            · have hk3' : k3 = L.length := by omega
              have HK3E := hid hk3'
              have ho := HK4.out.box w2.heap.size _ _ _ HO3.out (by decide) (by decide)
              obtain ⟨c0, c1, c2, c3, c4, c5, c6, c7, c8⟩ := box_cells ho
              have HO4 := hid ho
              obtain ⟨sb, hsb⟩ : ∃ sb, stopsI i = sb := ⟨_, rfl⟩
              have hce := cfends_any wr i
              rw [hsb] at hce
              have HCE := hid hce
              have HSB2 := hid hsb
              clear ho hsb hce hk3'
              gi_wp2
              refine ⟨trivial, (callsIn_wide.2 HCE.out).mono ?_⟩
              rintro e w5 ⟨rfl, hx5⟩
              have HX5 := hid hx5
              have HJ5 := hid (ext_J HJ.out HJ4.out hx5)
              have HK5 := hid ((HK3.out.trans HK4.out).ext hx5 hn0)
              have HRG5 := hid ((RangeG.walks HRG3.out HK4.out.walks).ext hx5)
              have HO5 := hid (ext_heap hx5 HO4.out)
              clear hx5 c0 c1 c2 c3 c4 c5 c6 c7 c8
              have hle := HRG5.out.left_eq
              have hle2 := HRG.out.left_eq
              cases sb with
              | false =>
                have HCA5 : Hid (CameIs ins entries tabs at_ (fun j => left j && !decide (j = x)) (pre3.map Subtype.val)) := hid (by
                  have h := came_step HCA.out HI.out
                  rw [candI, HSB2.out, HL.out] at h
                  rw [HP3.out, List.take_of_length_le (by have := HK3E.out; omega)]
                  simpa using h)
                gi_wp2
                refine ⟨trivial, ?_⟩
                gi_wp2
                refine ⟨fun _ h => (by cases h), ?_⟩
                gi_wp2
                first
                  | go_roundw
                  | refine ⟨?rel, ?measure⟩
                case rel => exact ⟨_, cnt2, pre3, by omega, by omega, HRG5, HCA5, HJ5, HK5⟩
                case measure => omega
              | true =>
                have hnx := isanext_any w5 i HIOK.out
                have HNX := hid hnx
                obtain ⟨c0, c1, c2, c3, c4, c5, c6, c7, c8⟩ := box_cells HO5.out
                clear hnx
                gi_wp2
                refine ⟨trivial, (callsIn_wide.2 HNX.out).mono ?_⟩
                rintro e w6 ⟨rfl, hx6⟩
                have HJ6 := hid (ext_J HJ.out HJ5.out hx6)
                have HK6 := hid (HK5.out.ext hx6 hn0)
                have HRG6 := hid (HRG5.out.ext hx6)
                clear hx6 c0 c1 c2 c3 c4 c5 c6 c7 c8 hle
                obtain ⟨fn, tmps, assign, body, hyy, hR⟩ := HY.out pre3 ⟨nextI i, nextI_lt i⟩ w6 HJ6.out (by have := HN.out; omega)
                dsimp only [encN] at hyy
                gi_wp2
                refine hR.mono ?_
                rintro e W7 (⟨rfl, hJ7, hk7⟩ | ⟨rfl, hJx7⟩)
                · have HJ7 := hid hJ7
                  have HK7 := hid (HK6.out.trans hk7)
                  have HRG7 := hid (RangeG.walks HRG6.out hk7.walks)
                  have hle := HRG7.out.left_eq
                  have HCA7 : Hid (CameIs ins entries tabs at_ (fun j => left j && !decide (j = x)) ((pre3 ++ [(⟨nextI i, nextI_lt i⟩ : U32n)]).map Subtype.val)) := hid (by
                    have h := came_step HCA.out HI.out
                    rw [candI, HSB2.out, HL.out] at h
                    rw [List.map_append, HP3.out, List.take_of_length_le (by have := HK3E.out; omega), List.append_assoc]
                    simpa using h)
                  clear hJ7 hk7 hyy hR
                  gi_wp2
                  first
                    | go_roundw
                    | refine ⟨?rel, ?measure⟩
                  case rel => exact ⟨_, cnt2, pre3 ++ [⟨nextI i, nextI_lt i⟩], by omega, by simp; omega, HRG7, HCA7, HJ7, HK7⟩
                  case measure => omega
                · have HJX := hid hJx7
                  clear hJx7 hyy hR
                  gi_wp2
                  refine bodyPost_ret (results_none rfl _ _ _) rfl ?_
                  exact ⟨⟨_, rfl⟩, .inr ⟨_, trivial, HJX.out⟩⟩
end Go.Proofs.Ytolbnhkdpbdhhaa
