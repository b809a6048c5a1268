/- cfg: leaders. -/
import Derived.Test.YtolbnhkdpbdhhaaCfgC
import Derived.Test.YtolbnhkdpbdhhaaCmpD
import Derived.RangeFuncBox
import Derived.RangeFuncWrites
import Derived.Maps.AppendAt
namespace Go.Proofs.Ytolbnhkdpbdhhaa
open Go Go.RowKit Go.Deco Go.Shelf
set_option linter.unusedSimpArgs false
set_option linter.unusedVariables false
attribute [local go_sem] Oper.semAt_some

/-- All candidates, as a list. -/
def candList (ins : List In) (entries : List Nat) (tabs : List (List Nat)) (at_ : List Nat) : List Nat := entries ++ (ins.filter fun i => decide (firstIn ins i.addr = some i)).flatMap (candI tabs at_)
theorem candList_mem {ins : List In} {entries : List Nat} {tabs : List (List Nat)} {at_ : List Nat} {x : Nat} : x ∈ candList ins entries tabs at_ ↔ Cand ins entries tabs at_ x := by
  unfold candList Cand
  rw [List.mem_append, List.mem_flatMap]
  constructor
  · rintro (h | ⟨i, hi, hx⟩)
    · exact .inl h
    · rw [List.mem_filter] at hi
      exact .inr ⟨i.addr, i, by simpa using hi.2, hx⟩
  · rintro (h | ⟨a, i, hi, hx⟩)
    · exact .inl h
    · obtain ⟨e, hm⟩ := firstIn_addr hi
      exact .inr ⟨i, List.mem_filter.2 ⟨hm, by rw [e, hi]; simp⟩, hx⟩
/-- The leaders. -/
def leadL (ins : List In) (entries : List Nat) (tabs : List (List Nat)) (at_ : List Nat) : List Nat := asc ((candList ins entries tabs at_).filter (hasIn ins))
/-- The addresses among them at which there is an instruction. -/
def flt (ins : List In) (pre : List U32n) : List Nat := (pre.map Subtype.val).filter (hasIn ins)
theorem flt_hit {ins : List In} {pre : List U32n} {x : U32n} (h : hasIn ins x.1 = true) : flt ins (pre ++ [x]) = flt ins pre ++ [x.1] := by simp [flt, h]
theorem flt_miss {ins : List In} {pre : List U32n} {x : U32n} (h : hasIn ins x.1 = false) : flt ins (pre ++ [x]) = flt ins pre := by simp [flt, h]
theorem flt_len (ins : List In) (pre : List U32n) : (flt ins pre).length ≤ pre.length := by
  unfold flt
  refine Nat.le_trans (List.length_filter_le _ _) ?_
  simp
def enc32 (l : List Nat) : List Value := l.map fun x : Nat => Value.int .u32 x
theorem info_u32 : (Try.prog.info? 39).map (fun i => (i.zero, i.size, i.bytes)) = some (some (.int .u32 0), 1, 4) := by kernel_rfl

theorem Kp17.alloc {s : Nat} {W : World} (hs : s ≤ W.heap.size) (o : Obj) : Kp17 s W (W.alloc o) :=
  ⟨(Below.refl s W).alloc hs o, KeepsWalks.alloc W o, fun b cur t g hb _ _ => (Below.heap_alloc _ _ b (Array.getElem?_eq_some_iff.1 hb).1).trans hb⟩
theorem Kp17.appended {s B k : Nat} {W w1 : World} {v v' : Value} {xs : List Value} {tmp : Obj} (hv : Boxed W B 23 v) (hrow : W.ownsRow s 39 1 v k xs) (hgrow : (W.alloc tmp).grownBy w1 v.ownBlock)
    (hk : KeepsOthers W (w1.setCell ⟨B, 0, none⟩ v')) (hb : Below s W (w1.setCell ⟨B, 0, none⟩ v')) : Kp17 s W (w1.setCell ⟨B, 0, none⟩ v') := by
  refine ⟨hb, ⟨hk.size, fun j o ho hw => hk.same j o ho (Obj.not_cells_of_walk hw)⟩, fun b cur t g hbk h1 h2 => ?_⟩
  have hlt := (Array.getElem?_eq_some_iff.1 hbk).1
  have hne1 : b ≠ B := by
    rintro rfl
    have hv' : W.heap[b]? = some (.cells #[v] 23 (0, 0)) := hv
    rw [hv'] at hbk
    injection hbk with hbk
    injection hbk with _ e _
    exact h2 e.symm
  have hne2 : some b ≠ v.ownBlock := by
    rcases hrow.2 with ⟨rfl, _⟩ | ⟨g', cap, cur', rfl, _, hgb, _⟩
    · simp [Value.ownBlock]
    · intro e
      obtain rfl : b = g' := by simpa [Value.ownBlock] using e
      rw [hgb] at hbk
      injection hbk with hbk
      injection hbk with _ e2 _
      exact h1 e2.symm
  exact (Below.heap_setCell _ _ _ b hne1).trans ((hgrow.block b (by simp; omega) hne2).trans ((Below.heap_alloc _ _ b hlt).trans hbk))
theorem heap_own {β : Type} {b : Nat} {cur : Array Value} {t : TypeId} {g : Nat × Nat} : Own (fun (_ : β) W => W.heap[b]? = some (.cells cur t g)) := by
  intro s X Y row h hg hrow
  refine (hg.block b (Array.getElem?_eq_some_iff.1 h).1 (fun e => ?_)).trans h
  obtain ⟨o, ho, hc⟩ := hrow b e.symm
  rw [h] at ho
  cases ho
  cases hc

set_option maxRecDepth 100000 in
theorem cand49_in (n : Nat) (w : World) (mv : Option Nat) (T Q E : Option Addr) (nt ct nq cq ne ce : Nat) :
    CallsIn Fence.wide n Try.prog 49 #[.agg #[.map mv, .slice T nt ct, .slice Q nq cq], .slice E ne ce] w fun e w' =>
      e = .returned (.func (.func 61) #[] #[.pointer (some ⟨w.heap.size + 1, 0, none⟩), .pointer (some ⟨w.heap.size, 0, none⟩)]) ∧
      w' = (w.alloc (.cells #[.map mv, .slice T nt ct, .slice Q nq cq] 65)).alloc (.cells #[.slice E ne ce] 23) := by
  refine callsIn_of_wp Try.func49 rfl trivial ?_ rfl
  simp only [Try.ntmps49, List.size_toArray, List.length_cons, List.length_nil, Nat.reduceAdd, Nat.reduceSub, Array.replicate_succ, Array.replicate_zero, List.push_toArray, List.append_toArray, List.nil_append, List.cons_append]
  gi_wp2
  go_ret
  exact ⟨rfl, rfl⟩

theorem cand_stops (n : Nat) (hn : 1 ≤ n) (s mb q : Nat) (E T Q : Option Addr) (ne ce nt ct nq cq : Nat) (entries : List Nat) (ins : List In) (tabs : List (List Nat)) (at_ : List Nat) (Be Bc : Nat) (w0 : World) (hs0 : s ≤ w0.heap.size) (hmb : mb < s)
    (hbe : w0.cell? ⟨Be, 0, none⟩ = some (.slice E ne ce)) (hbc : w0.heap[Bc]? = some (.cells #[.map (some mb), .slice T nt ct, .slice Q nq cq] 65 (0, 0)))
    (hm : MapG (u32K Try.underlying39) w0 mb q (insF ins)) (he : Sl u32R w0 (fun b => b < s) (.slice E ne ce) entries) (ht : Sl u32sR w0 (fun b => b < s) (.slice T nt ct) tabs) (hq : Sl u32R w0 (fun b => b < s) (.slice Q nq cq) at_) (hnq : nq ≤ 9223372036854775807)
    (hok : ∀ i ∈ ins, InOk i) (hne : ne ≤ 1000000) (htl : ∀ t ∈ tabs, t.length ≤ 1000) :
    SeqStopsK Fence.wide n Try.prog 61 #[.pointer (some ⟨Be, 0, none⟩), .pointer (some ⟨Bc, 0, none⟩)] encN (Kp17 s) (fun ys => (∀ x, x ∈ ys.map Subtype.val ↔ Cand ins entries tabs at_ x) ∧ ys.length ≤ ne + q * 1001) (fun _ => True) (ne + q * 1001) w0 := by
  intro l J Jx W hW hJ _ hY h0
  have hext : Ext w0 W := hW
  exact cand_in n hn l Be Bc s mb q E T Q ne ce nt ct nq cq entries ins tabs at_ _ J Jx W hY hJ h0 (Nat.le_trans hs0 hW.size) hmb (hext.cell hbe) (ext_heap hext hbc) (hm.ext hext) (he.ext hext) (ht.ext hext) (hq.ext hext) hnq hok (Nat.le_refl _) hne htl

set_option maxRecDepth 100000 in
set_option maxHeartbeats 4000000 in
theorem lead_any (w : World) (mb q : Nat) (E T Q : Option Addr) (ne ce nt ct nq cq : Nat) (entries : List Nat) (ins : List In) (tabs : List (List Nat)) (at_ : List Nat)
    (hm : MapG (u32K Try.underlying39) w mb q (insF ins)) (he : Sl u32R w All (.slice E ne ce) entries) (ht : Sl u32sR w All (.slice T nt ct) tabs) (hq : Sl u32R w All (.slice Q nq cq) at_) (hnq : nq ≤ 9223372036854775807)
    (hok : ∀ i ∈ ins, InOk i) (hne : ne ≤ 1000000) (htl : ∀ t ∈ tabs, t.length ≤ 1000) (hN : ne + q * 1001 ≤ 1000000) :
    Calls Try.prog 28 #[.agg #[.map (some mb), .slice T nt ct, .slice Q nq cq], .slice E ne ce] w fun e w' => Ext w w' ∧ ∃ A c, e = .returned (.slice A (leadL ins entries tabs at_).length c) ∧ Sl u32R w' All (.slice A (leadL ins entries tabs at_).length c) (leadL ins entries tabs at_) := by
  obtain ⟨i0, hi, hz0, hz1, hz2⟩ := info_parts info_u32
  refine (callsIn_wide (n := 4)).1 ?_
  refine callsIn_of_wp_marks Try.func28 rfl trivial ?_ rfl
  simp only [Try.ntmps28, List.size_toArray, List.length_cons, List.length_nil, Nat.reduceAdd, Nat.reduceSub, Array.replicate_succ, Array.replicate_zero, List.push_toArray, List.append_toArray, List.nil_append, List.cons_append]
  gi_wp2
  refine ⟨trivial, (cand49_in _ _ _ _ _ _ _ _ _ _ _ _).mono ?_⟩
  rintro e w' ⟨rfl, rfl⟩
  gi_wp2
  obtain ⟨s, hs⟩ : ∃ s, w.heap.size = s := ⟨_, rfl⟩
  rw [hs]
  obtain ⟨W0, hW0⟩ : ∃ W0, (((w.alloc (.cells #[.map (some mb), .slice T nt ct, .slice Q nq cq] 65)).alloc (.cells #[.slice none 0 0] 23)).alloc (.cells #[.map (some mb), .slice T nt ct, .slice Q nq cq] 65)).alloc (.cells #[.slice E ne ce] 23) = W0 := ⟨_, rfl⟩
  rw [hW0]
  have hE0 : Ext w W0 := by rw [← hW0]; exact ((((Ext.refl w).alloc _).alloc _).alloc _).alloc _
  have hB0 : Below s w W0 := by rw [← hs]; exact hE0
  have hz0' : W0.heap.size = s + 4 := by rw [← hW0, ← hs]; simp
  have oC : W0.heap[s]? = some (.cells #[.map (some mb), .slice T nt ct, .slice Q nq cq] 65 (0, 0)) := by
    rw [← hW0, ← hs]
    exact (Below.heap_alloc _ _ _ (by simp; omega)).trans ((Below.heap_alloc _ _ _ (by simp; omega)).trans ((Below.heap_alloc _ _ _ (by simp)).trans (World.alloc_heap_new w _)))
  have bO : Boxed W0 (s + 1) 23 (.slice none 0 0) := by
    rw [← hW0, ← hs]
    have h := World.alloc_heap_new (w.alloc (.cells #[.map (some mb), .slice T nt ct, .slice Q nq cq] 65)) (.cells #[.slice none 0 0] 23)
    rw [World.size_alloc] at h
    exact (Below.heap_alloc _ _ _ (by simp)).trans ((Below.heap_alloc _ _ _ (by simp)).trans h)
  have oC2 : W0.heap[s + 1 + 1]? = some (.cells #[.map (some mb), .slice T nt ct, .slice Q nq cq] 65 (0, 0)) := by
    rw [← hW0, ← hs]
    have h := World.alloc_heap_new ((w.alloc (.cells #[.map (some mb), .slice T nt ct, .slice Q nq cq] 65)).alloc (.cells #[.slice none 0 0] 23)) (.cells #[.map (some mb), .slice T nt ct, .slice Q nq cq] 65)
    rw [World.size_alloc, World.size_alloc] at h
    exact (Below.heap_alloc _ _ _ (by simp)).trans h
  have cE : W0.cell? ⟨s + 1 + 1 + 1, 0, none⟩ = some (.slice E ne ce) := by rw [← hW0, ← hs]; simp [go_sem]
  have hmb : mb < s := by rw [← hs]; exact hm.lt
  have hsl : ∀ {Et : Type} {R : Rep Et} {v : Value} {l : List Et}, Sl R w All v l → Sl R W0 (fun b => b < s) v l := fun h => (h.mono fun b _ hc => by rw [← hs]; exact hc.lt).ext hE0
  clear hW0
  refine wpIn_rangeFunc_ownG (F := Fence.wide) rfl (by omega) (gf := 61) (lb := #[.pointer (some ⟨s + 1 + 1 + 1, 0, none⟩), .pointer (some ⟨s + 1 + 1, 0, none⟩)]) rfl trivial (enters_of Try.func61 (by kernel_rfl) rfl)
    (cand_stops 3 (by omega) s mb q E T Q ne ce nt ct nq cq entries ins tabs at_ (s + 1 + 1 + 1) (s + 1 + 1) W0 (by omega) hmb cE oC2 (hm.ext hE0) (hsl he) (hsl ht) (hsl hq) hnq hok hne htl)
    (fun h k => h.trans k) (fun W l o o' hl h hc hw => Kp17.book (w := W0) (by omega) W l o o' hl h hc hw) (Below.refl _ _) (fun _ => rfl)
    (fun pre W => ((∃ v, Boxed W (s + 1) 23 v ∧ W.ownsRow s 39 1 v (flt ins pre).length (enc32 (flt ins pre)) ∧ (v = .slice none 0 0 ↔ flt ins pre = [])) ∧ W.heap[s]? = some (.cells #[.map (some mb), .slice T nt ct, .slice Q nq cq] 65 (0, 0))) ∧ Below s w W)
    (fun _ _ _ => False)
    (OwnFrom.and (OwnFrom.and (Own.from (holdsRow_own s (s + 1) 23 39 1 (fun pre => (flt ins pre).length) (fun pre => enc32 (flt ins pre)) (fun pre v => v = .slice none 0 0 ↔ flt ins pre = [])) _) (Own.from heap_own _)) (ownFrom_below (Nat.le_of_eq hs.symm) (by omega)))
    (fun _ _ _ _ _ hs _ _ => hs)
    ⟨⟨⟨_, bO, World.ownsRow_nil _ _ _ _, by simp [flt]⟩, oC⟩, hB0⟩
    (fun x => { tmps := #[.agg #[.map (some mb), .slice T nt ct, .slice Q nq cq], .slice E ne ce, .pointer (some ⟨s, 0, none⟩), undef, .slice none 0 0, .pointer (some ⟨s + 1, 0, none⟩), .int .u32 x.1, undef, undef, .agg #[.map (some mb), .slice T nt ct, .slice Q nq cq], .slice E ne ce, .func (.func 61) #[] #[.pointer (some ⟨s + 1 + 1 + 1, 0, none⟩), .pointer (some ⟨s + 1 + 1, 0, none⟩)], .int .u32 x.1, undef, undef, undef, undef, undef, undef, undef, undef, undef, undef, undef, undef, undef, undef, undef, undef], defers := [] }) ?assign ?body ?done ?stop
  case assign =>
    intro l x W K hK
    simp only [encN]
    gi_wp2
    exact hK
  case body =>
    rintro l pre x W ⟨⟨⟨v, hv, hrow, hnil⟩, hC⟩, hB⟩ hlt
    have hmW := MapG.at hm (hB.block mb hmb)
    have hpl := flt_len ins pre
    have hsz : s ≤ W.heap.size := by have := hB.size; omega
    obtain ⟨b0, -, -⟩ := code_cells hC
    have HMW := hid hmW
    have HX32 := hid x.2
    cases hx : firstIn ins x.1 with
    | some i =>
      obtain ⟨W2, hW2⟩ : ∃ W2, W.alloc (.cells #[.int .u32 i.addr, .int .u32 i.imm, .int .i64 i.op, .int .i64 i.form, .int .i64 i.width, .int .i64 i.cc, .int .i64 i.a, .int .i64 i.b, .int .i64 i.size] 61) = W2 := ⟨_, rfl⟩
      have hf1 : (insF ins x.1).getD (inV In.zero) = .agg #[.int .u32 i.addr, .int .u32 i.imm, .int .i64 i.op, .int .i64 i.form, .int .i64 i.width, .int .i64 i.cc, .int .i64 i.a, .int .i64 i.b, .int .i64 i.size] := by unfold insF; rw [hx]; rfl
      have hf2 : (insF ins x.1).isSome = true := by unfold insF; rw [hx]; rfl
      have HF1 := hid hf1
      have HF2 := hid hf2
      have hh : hasIn ins x.1 = true := by unfold hasIn; rw [hx]; rfl
      have hv2 : Boxed W2 (s + 1) 23 v := by rw [← hW2]; exact hv.alloc _
      have hr2 : W2.ownsRow s 39 1 v (flt ins pre).length (enc32 (flt ins pre)) := by rw [← hW2]; exact hrow.alloc _
      have hC2 : W2.heap[s]? = some (.cells #[.map (some mb), .slice T nt ct, .slice Q nq cq] 65 (0, 0)) := by rw [← hW2]; exact (Below.heap_alloc _ _ _ (Array.getElem?_eq_some_iff.1 hC).1).trans hC
      have hK2 : Kp17 s W W2 := by rw [← hW2]; exact Kp17.alloc hsz _
      have hO2 : KeepsOthers W W2 := by rw [← hW2]; exact KeepsOthers.alloc W _
      have hsz2 : s ≤ W2.heap.size := Nat.le_trans hsz hK2.below.size
      have hc := hv2.cell
      have HV2 := hid hv2
      have HR2 := hid hr2
      have HC2 := hid hC2
      have HK2 := hid hK2
      have HO2 := hid hO2
      have HH := hid hh
      have HB := hid hB
      clear hf1 hf2 hx hv hrow hC hB hmW hK2 hO2 hv2 hr2 hC2 hh
      gi_wp2_with (first
        | (gi_at_lookup; refine wpListIn_lookOk _ rfl (.tmp 15) (.tmp 16) 63 rfl 61 Try.underlying63 (inV In.zero) (zero_in _) (u32K Try.underlying39) mb q (insF ins) rfl HMW.out x.1 rfl HX32.out _ HF1.out true HF2.out ?_)
        | (gi_at_builtin; refine wpListIn_append_own _ rfl _ _ 23 rfl s 39 i0 (.int .u32 0) 1 4 Try.underlying23 hi hz0 hz1 hz2 rfl (by decide) _ _ _ rfl (HR2.out.alloc _) ⟨W2.heap.size, 0, none⟩ 1 1 [.int .u32 x.1] rfl rfl (cell_one_new _ _ _) (by simp [Value.oneCell']) (by unfold maxLen; omega) (by omega) (by simp; omega) ?_; intro v' w1 hown' hgrow _; obtain ⟨g', cap', rfl⟩ := ownsRow_succ hown'; obtain ⟨hv1, hv3, hr3, hk3, hb3⟩ := HV2.out.appended (by decide) HR2.out hsz2 (by omega) hown' hgrow; have hc1 := hv1.cell; have hf1 := hv1.frozen; have HV3 := hid hv3; have HR3 := hid hr3; have HK3 := hid hk3; have HB3 := hid hb3; have HG3 := hid hgrow; clear hown' hgrow hv1 hv3 hr3 hk3 hb3)
        | fail)
      refine ⟨(HO2.out.trans HK3.out).from _, HK2.out.trans (Kp17.appended HV2.out HR2.out HG3.out HK3.out HB3.out), ⟨⟨_, HV3.out, ?_, ?_⟩, ?_⟩, HB.out.trans (HK2.out.below.trans HB3.out)⟩
      · rw [flt_hit HH.out]
        simpa [enc32] using HR3.out
      · rw [flt_hit HH.out]
        simp
      · exact (Kp17.appended HV2.out HR2.out HG3.out HK3.out HB3.out).box s _ _ _ HC2.out (by decide) (by decide)
    | none =>
      obtain ⟨W2, hW2⟩ : ∃ W2, W.alloc (.cells #[.int .u32 0, .int .u32 0, .int .i64 0, .int .i64 0, .int .i64 0, .int .i64 0, .int .i64 0, .int .i64 0, .int .i64 0] 61) = W2 := ⟨_, rfl⟩
      have hf1 : (insF ins x.1).getD (inV In.zero) = .agg #[.int .u32 0, .int .u32 0, .int .i64 0, .int .i64 0, .int .i64 0, .int .i64 0, .int .i64 0, .int .i64 0, .int .i64 0] := by unfold insF; rw [hx]; rfl
      have hf2 : (insF ins x.1).isSome = false := by unfold insF; rw [hx]; rfl
      have HF1 := hid hf1
      have HF2 := hid hf2
      have hh : hasIn ins x.1 = false := by unfold hasIn; rw [hx]; rfl
      clear hf1 hf2 hx hW2
      have HV := hid hv
      have HR := hid hrow
      have HC := hid hC
      have HB := hid hB
      have HNIL := hid hnil
      have HH := hid hh
      clear hv hrow hC hB hnil hh
      gi_wp2_with (first
        | (gi_at_lookup; refine wpListIn_lookOk _ rfl (.tmp 15) (.tmp 16) 63 rfl 61 Try.underlying63 (inV In.zero) (zero_in _) (u32K Try.underlying39) mb q (insF ins) rfl HMW.out x.1 rfl HX32.out _ HF1.out false HF2.out ?_)
        | fail)
      refine ⟨(KeepsOthers.alloc W _).from _, Kp17.alloc hsz _, ⟨⟨v, HV.out.alloc _, by rw [flt_miss HH.out]; exact HR.out.alloc _, by rw [flt_miss HH.out]; exact HNIL.out⟩, (Below.heap_alloc _ _ _ (Array.getElem?_eq_some_iff.1 HC.out).1).trans HC.out⟩, HB.out.trans (Kp17.alloc hsz _).below⟩
  case done =>
    rintro D ys W hD ⟨hS, hlen⟩ ⟨⟨⟨v, hv, hrow, hnil⟩, hC⟩, hB⟩ hK
    have hext : Ext w W := by unfold Ext; rw [hs]; exact hB
    have hml := flt_len ins ys
    obtain ⟨M, hM⟩ : ∃ M, flt ins ys = M := ⟨_, rfl⟩
    have hmem : ∀ x, x ∈ M ↔ x ∈ (candList ins entries tabs at_).filter (hasIn ins) := fun x => by
      rw [← hM, flt, List.mem_filter, List.mem_filter, hS x, candList_mem]
    have hlt : ∀ x ∈ M, x < 4294967296 := fun x hx => by
      rw [← hM, flt, List.mem_filter] at hx
      obtain ⟨y, -, rfl⟩ := List.mem_map.1 hx.1
      exact y.2
    rw [hM] at hrow hml
    have hown : OwnS u32R W w.heap.size 39 All v M := ⟨enc32 M, by rw [hs]; exact hrow, chunks_num.2 ⟨rfl, hlt⟩⟩
    have hne : ∀ g, v.ownBlock = some g → g ≠ D := by
      rintro g hg rfl
      rcases hrow.2 with ⟨rfl, _⟩ | ⟨g', cap, cur', rfl, _, hgb, _⟩
      · simp [Value.ownBlock] at hg
      · obtain rfl : g' = g := by simpa [Value.ownBlock] using hg
        rw [hgb] at hK
        cases hK
    have hnr := hv.not_row (by decide) hrow
    obtain ⟨A, c, rfl, -, -⟩ := hown.form
    have hc := hv.cell
    have HOWN := hid hown
    have HEXT := hid hext
    have HK := hid hK
    have HMEM := hid hmem
    have HV := hid hv
    clear hC hnil hrow hB hext hown hmem hlt hS hK hv
    gi_wp2
    refine ⟨trivial, (callsIn_wide.2 (sort_own HOWN.out (by omega))).mono ?_⟩
    rintro e w2 ⟨rfl, ho2, hg2⟩
    have hK2 := (hg2.block D (Array.getElem?_eq_some_iff.1 HK.out).1 (fun e => hne D e.symm rfl)).trans HK.out
    have hv2 : Boxed w2 (s + 1) 23 (.slice A M.length c) := HV.out.kept hg2 hnr
    have hx2 := HEXT.out.grown hg2 (fun k hk => (HOWN.out.block _ hk).1)
    have hcp := compactD_any w w2 D _ ⟨hx2, hK2⟩ A M.length c (sorted32 M) ho2 (by omega) (fun g hg => hne g (by rw [hg]; rfl))
    have e2 : ddn (sorted32 M) M.length = leadL ins entries tabs at_ := by
      have h1 : (sorted32 M).Pairwise (· ≤ ·) := by
        have : (sorted32 M).Pairwise (fun a b => decide (a ≤ b) = true) := List.pairwise_mergeSort (fun a b c h1 h2 => by simp at h1 h2 ⊢; omega) (fun a b => by simp; omega) M
        exact this.imp fun h => by simpa using h
      rw [ddn_sorted h1 M.length (by rw [sorted32_length]; exact Nat.le_refl _), List.take_of_length_le (by rw [sorted32_length]; exact Nat.le_refl _)]
      exact asc_eq fun a => sorted32_mem.trans (HMEM.out a)
    rw [e2] at hcp
    have HCP := hid hcp
    have hc2 := hv2.cell
    have hDs : w.heap.size ≤ D := by omega
    clear ho2 hg2 hK2 hv2 hx2 hcp e2 hc
    gi_wp2
    refine ⟨trivial, (callsIn_wide.2 HCP.out).mono ?_⟩
    rintro e w3 ⟨⟨hx3, hK3⟩, A3, c3, rfl, ho3⟩
    gi_wp2
    refine ⟨by simp, .inl ⟨_, _, rfl, run_takeDeferred hK3, ?_⟩⟩
    refine ⟨_, results_tmp rfl _ _ _, ?_, A3, c3, rfl, ?_⟩
    · exact Below.trans (show Below w.heap.size w w3 from hx3) (belowK_b (w := w) (Nat.le_of_eq rfl) w3 D _ _ hDs hK3 rfl rfl)
    · refine ho3.sl.keep fun b _ hb => World.putObj_heap_other ?_
      rintro rfl
      obtain ⟨c', t', g', hq⟩ := hb
      rw [hK3] at hq
      cases hq
  case stop =>
    rintro D c pre W _ _ h _
    exact h.elim
end Go.Proofs.Ytolbnhkdpbdhhaa
