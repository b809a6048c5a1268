/- The walk of funcs.reach: what a function leads to. -/
import Derived.Test.YtnlmhnbogleijaaGreatDoorFunBm
import Derived.Test.YtnlmhnbogleijaaGreatDoorMap
import Derived.Laws.EntriesVeiled
namespace Go.Proofs.YtnlmhnbogleijaaGreatDoor
open Go.RowKit Go.Deco
set_option linter.unusedSimpArgs false
set_option linter.unusedVariables false

theorem zero_bool : ∀ w, (zeroValue 4).run Tryz.prog w = .ok (.bool false) w := fun w => by kernel_rfl
/-- A set of numbers as a map to bool. -/
def setF (S : Nat → Bool) : Nat → Option Value := fun x => if S x then some (.bool true) else none
theorem setF_look (S : Nat → Bool) (x : Nat) (b : Bool) (h : S x = b) : (setF S x).getD (.bool false) = .bool b := by
  subst h
  unfold setF
  cases S x <;> rfl
def addB (S : Nat → Bool) (a : Nat) : Nat → Bool := fun x => S x || decide (x = a)
theorem setF_add (S : Nat → Bool) (a : Nat) : ∀ x, setF (addB S a) x = if x = a then some (.bool true) else setF S x := by
  intro x
  unfold setF addB
  by_cases h : x = a
  · simp [h]
  · simp [h]
def unseen (U : List Nat) (S : Nat → Bool) : Nat := (U.filter fun x => !S x).length
theorem unseen_add {U : List Nat} {S : Nat → Bool} {a : Nat} (ha : a ∈ U) (hs : S a = false) : unseen U (addB S a) < unseen U S :=
  filter_lt (fun x _ h => by simp [addB] at h ⊢; exact h.1) ha (by simp [hs]) (by simp [addB])

structure Vis (l : List Fn18) (a : Nat) (S S' : Nat → Bool) : Prop where
  sub : ∀ x, S x = true → S' x = true
  has : S' a = true
  reach : ∀ x, S' x = true → S x = true ∨ Reach l a x
  closed : ∀ x, S' x = true → S x = true ∨ ∀ c ∈ calleesOf l x, S' c = true
/-- The callees are under way. -/
structure VisL (l : List Fn18) (a : Nat) (S S' : Nat → Bool) (j : Nat) : Prop where
  sub : ∀ x, addB S a x = true → S' x = true
  reach : ∀ x, S' x = true → S x = true ∨ Reach l a x
  closed : ∀ x, S' x = true → addB S a x = true ∨ ∀ c ∈ calleesOf l x, S' c = true
  done : ∀ i, i < j → ∀ y, (calleesOf l a)[i]? = some y → S' y = true
theorem VisL.start (l : List Fn18) (a : Nat) (S : Nat → Bool) : VisL l a S (addB S a) 0 :=
  ⟨fun _ h => h, fun x h => by
    simp [addB] at h
    rcases h with h | rfl
    · exact .inl h
    · exact .inr (.refl _), fun _ h => .inl h, fun i hi => by omega⟩
theorem VisL.step {l : List Fn18} {a : Nat} {S S1 S2 : Nat → Bool} {j x : Nat} (h : VisL l a S S1 j) (hx : (calleesOf l a)[j]? = some x) (hv : Vis l x S1 S2) : VisL l a S S2 (j + 1) := by
  have hxm := List.mem_of_getElem? hx
  refine ⟨fun y hy => hv.sub y (h.sub y hy), fun y hy => ?_, fun y hy => ?_, fun i hi y hy => ?_⟩
  · rcases hv.reach y hy with h1 | h1
    · exact h.reach y h1
    · exact .inr ((Reach.step (.refl a) hxm).trans h1)
  · rcases hv.closed y hy with h1 | h1
    · rcases h.closed y h1 with h2 | h2
      · exact .inl h2
      · exact .inr fun c hc => hv.sub c (h2 c hc)
    · exact .inr h1
  · rcases Nat.lt_or_ge i j with h1 | h1
    · exact hv.sub y (h.done i h1 y hy)
    · obtain rfl : i = j := by omega
      rw [hx] at hy
      cases hy
      exact hv.has
theorem VisL.fin {l : List Fn18} {a : Nat} {S S1 : Nat → Bool} {j : Nat} (h : VisL l a S S1 j) (hj : (calleesOf l a).length ≤ j) : Vis l a S S1 := by
  refine ⟨fun x hx => h.sub x (by simp [addB, hx]), h.sub a (by simp [addB]), h.reach, fun x hx => ?_⟩
  rcases h.closed x hx with h1 | h1
  · simp [addB] at h1
    rcases h1 with h1 | rfl
    · exact .inl h1
    · refine .inr fun c hc => ?_
      obtain ⟨i, hi, rfl⟩ := List.getElem_of_mem hc
      exact h.done i (by omega) _ (List.getElem?_eq_getElem hi)
  · exact .inr h1
theorem Vis.seen (l : List Fn18) {a : Nat} {S : Nat → Bool} (h : S a = true) : Vis l a S S := ⟨fun _ h => h, h, fun _ h => .inl h, fun _ h => .inl h⟩
theorem Vis.all {l : List Fn18} {a : Nat} {S' : Nat → Bool} (h : Vis l a (fun _ => false) S') (x : Nat) : S' x = true ↔ Reach l a x := by
  constructor
  · intro hx
    rcases h.reach x hx with h1 | h1
    · cases h1
    · exact h1
  · intro hr
    refine hr.closed (S := fun y => S' y = true) h.has fun y hy c hc => ?_
    rcases h.closed y hy with h1 | h1
    · cases h1
    · exact h1 c hc

theorem call_fr1 : ∀ args w, (callFunc 45 args).run Tryz.prog w = .ok (.enter 45 args) w := fun args w => callFunc_enter Tryz.func45 (by kernel_rfl) rfl args w

def VisPost (w : World) (m : Nat) (l : List Fn18) (U : List Nat) (a : Nat) (S : Nat → Bool) (q : Nat) (e : Ending) (w' : World) : Prop :=
  e = .returned (.tuple #[]) ∧ w.grownBy w' (some m) ∧ ∃ S' q', MapG (u32K Tryz.underlying38) w' m q' (setF S') ∧ Vis l a S S' ∧ q' + unseen U S' ≤ q + unseen U S ∧ unseen U S' ≤ unseen U S

theorem grownBy_same {a b c : World} {g : Nat} (h : a.grownBy b (some g)) (k : b.grownBy c (some g)) : a.grownBy c (some g) :=
  ⟨k.os.trans h.os, k.tape.trans h.tape, k.output.trans h.output, Nat.le_trans h.size k.size, fun i hi hne => (k.block i (Nat.lt_of_lt_of_le hi h.size) hne).trans (h.block i hi hne)⟩
theorem unseen_pos {U : List Nat} {S : Nat → Bool} {a : Nat} (ha : a ∈ U) (hs : S a = false) : 0 < unseen U S :=
  List.length_pos_of_mem (List.mem_filter.2 ⟨ha, by simp [hs]⟩)

set_option maxRecDepth 100000 in
set_option maxHeartbeats 2000000 in
theorem visit_seen (A : Option Addr) (n c : Nat) (l : List Fn18) (U : List Nat) (m bs bl bv : Nat) (w : World) (a : Nat) (S : Nat → Bool) (q : Nat) (ha : a < 4294967296) (c1 : w.cell? ⟨bs, 0, none⟩ = some (.map (some m))) (hm : MapG (u32K Tryz.underlying38) w m q (setF S)) (hs : S a = true) :
    Calls Tryz.prog 45 #[.int .u32 a, .pointer (some ⟨bs, 0, none⟩), .pointer (some ⟨bl, 0, none⟩), .pointer (some ⟨bv, 0, none⟩)] w (VisPost w m l U a S q) := by
  have HM := hid hm; clear hm
  have HS := hid hs; clear hs
  go_enter Tryz.func45, Tryz.ntmps45
  go_wp2_with (first
    | (at_lookup; refine wpList_look _ rfl (.tmp 7) (.tmp 8) 65 rfl 4 Tryz.underlying65 (.bool false) (zero_bool _) (u32K Tryz.underlying38) m q (setF S) rfl HM.out a rfl ha (.bool true) (setF_look S a true HS.out) ?_)
    | fail)
  (try simp only [Exit.inBlock, Exit.then]); refine bodyPost_ret (results_none rfl _ _ _) rfl ?_
  exact ⟨rfl, World.grownBy.refl _ _, S, q, HM.out, Vis.seen l HS.out, Nat.le_refl _, Nat.le_refl _⟩

set_option maxRecDepth 100000 in
set_option maxHeartbeats 4000000 in
theorem visit_any (A : Option Addr) (n c : Nat) (l : List Fn18) (hn : n ≤ 1000) (hc : ∀ f ∈ l, f.calls.length ≤ 1000) (U : List Nat) (hU : ∀ x ∈ entriesOf l, x ∈ U) (hU2 : ∀ x ∈ U, x < 4294967296) (m bs bl bv : Nat) : ∀ (k : Nat) (w : World) (a : Nat) (S : Nat → Bool) (q : Nat),
    a ∈ U → unseen U S ≤ k → q + unseen U S ≤ 2000 → w.cell? ⟨bs, 0, none⟩ = some (.map (some m)) → w.cell? ⟨bl, 0, none⟩ = some (.slice A n c) →
    w.cell? ⟨bv, 0, none⟩ = some (.func (.func 45) #[] #[.pointer (some ⟨bs, 0, none⟩), .pointer (some ⟨bl, 0, none⟩), .pointer (some ⟨bv, 0, none⟩)]) → MapG (u32K Tryz.underlying38) w m q (setF S) → Sl fnR w All (.slice A n c) l →
    Calls Tryz.prog 45 #[.int .u32 a, .pointer (some ⟨bs, 0, none⟩), .pointer (some ⟨bl, 0, none⟩), .pointer (some ⟨bv, 0, none⟩)] w (VisPost w m l U a S q) := by
  intro k
  induction k with
  | zero =>
    intro w a S q ha hk hq c1 c2 c3 hm hl
    cases hs : S a with
    | true => exact visit_seen A n c l U m bs bl bv w a S q (hU2 a ha) c1 hm hs
    | false => have := unseen_pos ha hs; omega
  | succ k ih =>
    intro w a S q ha hk hq c1 c2 c3 hm hl
    cases hs : S a with
    | true => exact visit_seen A n c l U m bs bl bv w a S q (hU2 a ha) c1 hm hs
    | false =>
      have ha32 := hU2 a ha
      have hlt := unseen_add ha hs
      have HIH := hid ih; clear ih
      have HC := hid hc
      have HU := hid hU
      have HU2 := hid hU2
      have HM := hid hm
      have HL := hid hl
      have HS := hid hs
      have HQ := hid hq
      have HK := hid hk
      have HLT := hid hlt
      have HC3 := hid c3
      have HC2 := hid c2
      have HC1 := hid c1
      have hq1 : q < 2000 := by omega
      clear hc hU hU2 hm hl hs ha hq hk hlt c3
      have hg := call_fr1
      go_enter Tryz.func45, Tryz.ntmps45
      go_wp2_with (first
        | (at_lookup; refine wpList_look _ rfl (.tmp 7) (.tmp 8) 65 rfl 4 Tryz.underlying65 (.bool false) (zero_bool _) (u32K Tryz.underlying38) m q (setF S) rfl HM.out a rfl ha32 (.bool false) (setF_look S a false HS.out) ?_)
        | (at_mapUpdate; refine wpList_put _ rfl (.tmp 10) (.tmp 11) (.const (.bool true)) 65 rfl 4 Tryz.underlying65 (u32K Tryz.underlying38) m q (setF S) rfl HM.out (by unfold maxLen; omega) a rfl ha32 (.bool true) rfl ?_; intro w1 hm1 hg1; have HM1 := hid (MapG.same hm1 (setF_add S a)); have HG1 := hid hg1; have c2 := HM.out.cell hg1 HC2.out; have c1 := HM.out.cell hg1 c1; clear hm1 hg1)
        | fail)
      have HL1 := hid (HM.out.sl HG1.out HL.out)
      refine (callees_any w1 w1 (Ext.refl _) A n c l HL1.out hn HC.out a).mono ?_
      rintro e w2 ⟨hx2, A2, c2', rfl, hs2⟩
      have HX2 := hid hx2
      have HS2 := hid hs2
      have hcap := hs2.cap
      have hcap1 := hcap.1
      have hcap2 := hcap.2
      clear hcap hx2 hs2 c1 c2 hg
      obtain ⟨C, hC⟩ : ∃ C, calleesOf l a = C := ⟨_, rfl⟩
      rw [hC] at HS2 hcap1 ⊢
      obtain ⟨N, hN⟩ : ∃ N, C.length = N := ⟨_, rfl⟩
      rw [hN] at HS2 hcap1 ⊢
      have HCE := hid hC; clear hC
      have HN := hid hN; clear hN
      have HG2 := hid (HG1.out.andThen (HX2.out.grownBy none) (fun j hj => by cases hj))
      have HM2 := hid (HM1.out.ext HX2.out)
      go_wp2
      go_loopw [16] (fun i wr => ∃ (j : Nat) (S' : Nat → Bool) (q' : Nat), j ≤ N ∧ i = .int .i64 j ∧ Hid (w2.grownBy wr (some m)) ∧ Hid (MapG (u32K Tryz.underlying38) wr m q' (setF S')) ∧ Hid (VisL l a S S' j) ∧ Hid (q' + unseen U S' ≤ q + 1 + unseen U (addB S a) ∧ unseen U S' ≤ unseen U (addB S a))) (fun i _ => N - (intOf i).toNat)
      case atStart => exact ⟨0, addB S a, q + 1, by omega, rfl, hid (World.grownBy.refl _ _), HM2, hid (VisL.start l a S), hid ⟨Nat.le_refl _, Nat.le_refl _⟩⟩
      case round =>
        obtain ⟨j, S', q', hj, rfl, HGR, HMR, HV, HB⟩ := hrel
        by_cases h1 : j < N
        · obtain ⟨x, hx⟩ : ∃ x, C[j]? = some x := ⟨_, List.getElem?_eq_getElem (by have := HN.out; omega)⟩
          have hxs := HM2.out.sl HGR.out HS2.out
          obtain ⟨b, off, rfl, cx, hx32⟩ := hxs.num_at hx
          have hxe : (calleesOf l a)[j]? = some x := by rw [HCE.out]; exact hx
          have HXE := hid hxe
          have hxU := HU.out x (callees_entry (List.mem_of_getElem? hxe))
          have HXU := hid hxU
          have d1 := HM2.out.cell HGR.out (HX2.out.cell (HM.out.cell HG1.out HC1.out))
          have d2 := HM2.out.cell HGR.out (HX2.out.cell (HM.out.cell HG1.out HC2.out))
          have d3 := HM2.out.cell HGR.out (HX2.out.cell (HM.out.cell HG1.out HC3.out))
          have hlr := HM2.out.sl HGR.out (HL1.out.ext HX2.out)
          have HLR := hid hlr
          clear hx hxe hxU hxs hlr
          have hg := call_fr1
          go_wp2_with fail
          refine (HIH.out wr x S' q' HXU.out (by have := HB.out; have := HK.out; have := HLT.out; omega) (by have := HB.out; have := HQ.out; have := HLT.out; omega) d1 d2 d3 HMR.out HLR.out).mono ?_
          rintro e w3 ⟨rfl, hg3, S3, q3, hm3, hv3, hb3⟩
          have HG3 := hid (grownBy_same HGR.out hg3)
          have HM3 := hid hm3
          have HV3 := hid (HV.out.step HXE.out hv3)
          have HB3 := hid (And.intro (Nat.le_trans hb3.1 HB.out.1) (Nat.le_trans hb3.2 HB.out.2))
          clear hg3 hm3 hv3 hb3 d1 d2 d3 cx hg
          go_wp2
          first
            | go_roundw
            | refine ⟨?rel, ?measure⟩
          case rel => exact ⟨j + 1, S3, q3, by omega, by go_num, HG3, HM3, HV3, HB3⟩
          case measure => simp [intOf]; omega
        · obtain rfl : N = j := by omega
          go_wp2
          (try simp only [Exit.inBlock, Exit.then]); refine bodyPost_ret (results_none rfl _ _ _) rfl ?_
          exact ⟨rfl, grownBy_same HG2.out HGR.out, S', q', HMR.out, HV.out.fin (by rw [HCE.out, HN.out]; exact Nat.le_refl _), by have := HB.out; have := HLT.out; omega, by have := HB.out; have := HLT.out; omega⟩

def ReachPost (w : World) (l : List Fn18) (a : Nat) (e : Ending) (w' : World) : Prop :=
  Ext w w' ∧ ∃ m q S, e = .returned (.map (some m)) ∧ w.heap.size ≤ m ∧ m < w'.heap.size ∧ MapG (u32K Tryz.underlying38) w' m q (setF S) ∧ ∀ x, S x = true ↔ Reach l a x

theorem unseen_none (U : List Nat) : unseen U (fun _ => false) = U.length := by simp [unseen]
set_option maxRecDepth 100000 in
set_option maxHeartbeats 2000000 in
theorem reach_any (w : World) (A : Option Addr) (n c : Nat) (l : List Fn18) (hl : Sl fnR w All (.slice A n c) l) (hn : n ≤ 1000) (hc : ∀ f ∈ l, f.calls.length ≤ 1000) (a : Nat) (ha : a < 4294967296) :
    Calls Tryz.prog 24 #[.slice A n c, .int .u32 a] w (ReachPost w l a) := by
  have hmm := @run_makeMap Tryz.prog
  have hg := call_fr1
  have hln := hl.len
  have hent : ∀ f ∈ l, f.entry < 4294967296 := fun f hf => by
    obtain ⟨k, hk, rfl⟩ := List.getElem_of_mem hf
    obtain ⟨b, off, bA, bc, cA, cc, _, _, _, he, _⟩ := Sl_fn_at hl (List.getElem?_eq_getElem hk)
    exact he
  have hUl : (a :: entriesOf l).length ≤ 1001 := by
    have := asc_len (l.map (·.entry))
    rw [List.length_map] at this
    rw [List.length_cons, entriesOf]
    omega
  obtain ⟨W0, hW0⟩ : ∃ W0, (((w.alloc (Obj.cells #[.slice A n c] 28)).alloc (.map #[] 0)).alloc (Obj.cells #[.map (some (w.heap.size + 1))] 65)).alloc
    (Obj.cells #[.func (.func 45) #[] #[.pointer (some ⟨w.heap.size + 1 + 1, 0, none⟩), .pointer (some ⟨w.heap.size, 0, none⟩), .pointer (some ⟨w.heap.size + 1 + 1 + 1, 0, none⟩)]] 75) = W0 := ⟨_, rfl⟩
  have hE : Ext w W0 := by rw [← hW0]; exact ((((Ext.refl w).alloc _).alloc _).alloc _).alloc _
  have q0 : W0.cell? ⟨w.heap.size, 0, none⟩ = some (.slice A n c) := by rw [← hW0]; simp [go_sem]
  have q2 : W0.cell? ⟨w.heap.size + 1 + 1, 0, none⟩ = some (.map (some (w.heap.size + 1))) := by rw [← hW0]; simp [go_sem]
  have q3 : W0.cell? ⟨w.heap.size + 1 + 1 + 1, 0, none⟩ = some (.func (.func 45) #[] #[.pointer (some ⟨w.heap.size + 1 + 1, 0, none⟩), .pointer (some ⟨w.heap.size, 0, none⟩), .pointer (some ⟨w.heap.size + 1 + 1 + 1, 0, none⟩)]) := by rw [← hW0]; simp [go_sem]
  have hm : MapG (u32K Tryz.underlying38) W0 (w.heap.size + 1) 0 (setF fun _ => false) := by
    rw [← hW0]
    have h := MapG.made (u32K Tryz.underlying38) (w.alloc (Obj.cells #[.slice A n c] 28))
    have e : (w.alloc (Obj.cells #[.slice A n c] 28)).heap.size = w.heap.size + 1 := by simp
    rw [e] at h
    exact ((h.same (f' := setF fun _ => false) fun x => rfl).ext ((Ext.refl _).alloc _)).ext ((Ext.refl _).alloc _)
  have HE := hid hE; clear hE
  have HM := hid hm; clear hm
  have HL := hid hl; clear hl
  have HC := hid hc; clear hc
  have HEN := hid hent; clear hent
  have HUL := hid hUl; clear hUl
  clear hln
  go_enter Tryz.func24, Tryz.ntmps24
  go_wp2_with fail
  have hU2 : ∀ x ∈ a :: entriesOf l, x < 4294967296 := by
    intro x hx
    rcases List.mem_cons.1 hx with rfl | hx
    · exact ha
    · obtain ⟨f, hf, rfl⟩ := List.mem_map.1 (asc_mem.1 hx)
      exact HEN.out f hf
  refine (visit_any A n c l hn HC.out (a :: entriesOf l) (fun x hx => by simp [hx]) hU2 (w.heap.size + 1) (w.heap.size + 1 + 1) w.heap.size (w.heap.size + 1 + 1 + 1) 1001 W0 a (fun _ => false) 0 (by simp) (by rw [unseen_none]; exact HUL.out) (by rw [unseen_none]; have := HUL.out; omega) q2 q0 q3 HM.out (HL.out.ext HE.out)).mono ?_
  rintro e w1 ⟨rfl, hg1, S', q', hm1, hv, -⟩
  have d2 := HM.out.cell hg1 q2
  have HG1 := hid hg1
  have HM1 := hid hm1
  have HV := hid hv
  clear hg1 hm1 hv hU2 hW0 q0 q2 q3 hg
  go_wp2
  go_ret
  exact ⟨HE.out.grown HG1.out (fun k hk => by cases hk; omega), w.heap.size + 1, q', S', rfl, by omega, HM1.out.lt, HM1.out, HV.out.all⟩
end Go.Proofs.YtnlmhnbogleijaaGreatDoor
