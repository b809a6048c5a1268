/- funcs.collect: what a visit holds in memory. funcs.collect: the closure that visits the blocks of a function. -/
import Derived.Test.YtnlmhnbogleijaaGreatDoorFbAm
import Derived.Test.YtnlmhnbogleijaaGreatDoorFunDm
import Derived.Test.YtnlmhnbogleijaaGreatDoorCfgm
namespace Go.Proofs.YtnlmhnbogleijaaGreatDoor
open Go Go.RowKit Go.Deco
set_option linter.unusedSimpArgs false
set_option linter.unusedVariables false

/-- The boxes of a visit: the set of addresses seen, the function under way, the closure itself. -/
structure VSt (wo w : World) (b1 ba bs bf bv m : Nat) (en : Nat) (S : Nat → Bool) (q : Nat) (C : List Nat) (L : Bool) (A : Option Addr) (c : Nat) : Prop where
  ext : Ext wo w
  s : w.cell? ⟨bs, 0, none⟩ = some (.map (some m))
  v : w.cell? ⟨bv, 0, none⟩ = some (.func (.func 35) #[] #[.pointer (some ⟨ba, 0, none⟩), .pointer (some ⟨bs, 0, none⟩), .pointer (some ⟨bf, 0, none⟩), .pointer (some ⟨bv, 0, none⟩)])
  f0 : w.cell? ⟨bf, 0, none⟩ = some (.int .u32 en)
  f1 : w.cell? ⟨bf, 1, none⟩ = some (.string ⟨#[]⟩)
  f2 : w.cell? ⟨bf, 2, none⟩ = some (.slice none 0 0)
  f3 : w.cell? ⟨bf, 3, none⟩ = some (.slice A C.length c)
  f4 : w.cell? ⟨bf, 4, none⟩ = some (.bool L)
  ff : ∀ i, w.frozen? ⟨bf, i, none⟩ = false
  map : MapG (u32K Tryz.underlying38) w m q (setF S)
  own : OwnS u32R w b1 38 All (.slice A C.length c) C
  lts : bs < b1 ∧ bf < b1 ∧ bv < b1 ∧ m < b1
  ges : wo.heap.size ≤ bs ∧ wo.heap.size ≤ bf ∧ wo.heap.size ≤ m ∧ wo.heap.size ≤ b1
  ne : bs ≠ bf ∧ bv ≠ bf
  le : b1 ≤ w.heap.size
namespace VSt
variable {wo w w' : World} {b1 ba bs bf bv m en q : Nat} {S : Nat → Bool} {C : List Nat} {L : Bool} {A : Option Addr} {c : Nat}
theorem more (h : VSt wo w b1 ba bs bf bv m en S q C L A c) (he : Ext w w') : VSt wo w' b1 ba bs bf bv m en S q C L A c :=
  ⟨h.ext.trans he, he.cell h.s, he.cell h.v, he.cell h.f0, he.cell h.f1, he.cell h.f2, he.cell h.f3, he.cell h.f4, fun i => (he.frozen (p := ⟨bf, i, none⟩) (show bf < w.heap.size from World.block_lt_of_cell? _ _ h.f0)).trans (h.ff i), h.map.ext he, h.own.ext he, h.lts, h.ges, h.ne, Nat.le_trans h.le he.size⟩
theorem mne (h : VSt wo w b1 ba bs bf bv m en S q C L A c) : m ≠ bf := fun e => h.map.ne (q := bf) (isCells_of h.f0) e.symm
theorem put (h : VSt wo w b1 ba bs bf bv m en S q C L A c) {S' : Nat → Bool} {q' : Nat} (hm : MapG (u32K Tryz.underlying38) w' m q' (setF S')) (hg : w.grownBy w' (some m)) : VSt wo w' b1 ba bs bf bv m en S' q' C L A c := by
  have hc : ∀ {p : Addr} {u : Value}, w.cell? p = some u → w'.cell? p = some u := fun hp => h.map.cell hg hp
  have hb : w'.heap[bf]? = w.heap[bf]? := h.map.block hg (isCells_of h.f0)
  refine ⟨h.ext.grown hg (fun k hk => by cases hk; exact h.ges.2.2.1), hc h.s, hc h.v, hc h.f0, hc h.f1, hc h.f2, hc h.f3, hc h.f4, fun i => (World.frozen?_of_block (a := ⟨bf, i, none⟩) hb).trans (h.ff i), hm, own_map h.own h.map hg, h.lts, h.ges, h.ne, Nat.le_trans h.le hg.size⟩
/-- A store into the function's box. -/
theorem set3 (h : VSt wo w b1 ba bs bf bv m en S q C L A c) {A' : Option Addr} {c' : Nat} {C' : List Nat} (ho : OwnS u32R w' b1 38 All (.slice A' C'.length c') C') (hg : w.grownBy w' (Value.slice A C.length c).ownBlock) :
    VSt wo (w'.setCell ⟨bf, 3, none⟩ (.slice A' C'.length c')) b1 ba bs bf bv m en S q C' L A' c' := by
  have hb1 := fun k hk => (h.own.block k hk).1
  have hnb : ∀ d, d < b1 → some d ≠ (Value.slice A C.length c).ownBlock := fun d hd e => by have := hb1 d e.symm; omega
  have hlt := h.le
  obtain ⟨l1, l2, l3, l4⟩ := h.lts
  have hblk : ∀ d, d < b1 → w'.heap[d]? = w.heap[d]? := fun d hd => hg.block d (by omega) (hnb d hd)
  have hcell : ∀ (d j : Nat) (u : Value), d < b1 → w.cell? ⟨d, j, none⟩ = some u → w'.cell? ⟨d, j, none⟩ = some u := fun d j u hd hu => (World.cell?_of_block (a := ⟨d, j, none⟩) (hblk d hd)).trans hu
  have hfar : ∀ (d j : Nat) (u : Value), d < b1 → d ≠ bf → w.cell? ⟨d, j, none⟩ = some u → (w'.setCell ⟨bf, 3, none⟩ (.slice A' C'.length c')).cell? ⟨d, j, none⟩ = some u := fun d j u hd hne hu =>
    (World.cell?_setCell_other _ _ _ _ (fun e => hne (by have := congrArg Addr.block e; exact this.symm))).trans (hcell d j u hd hu)
  have hoth : ∀ (j : Nat) (u : Value), j ≠ 3 → w.cell? ⟨bf, j, none⟩ = some u → (w'.setCell ⟨bf, 3, none⟩ (.slice A' C'.length c')).cell? ⟨bf, j, none⟩ = some u := fun j u hj hu =>
    (World.cell?_setCell_other _ _ _ _ (fun e => hj (by have := congrArg Addr.off e; exact this.symm))).trans (hcell bf j u l2 hu)
  refine ⟨(h.ext.grown hg (fun k hk => Nat.le_trans h.ges.2.2.2 (hb1 k hk))).setCell h.ges.2.1 _, hfar _ _ _ l1 h.ne.1 h.s, hfar _ _ _ l3 h.ne.2 h.v, hoth _ _ (by omega) h.f0, hoth _ _ (by omega) h.f1, hoth _ _ (by omega) h.f2, World.cell?_setCell_same _ _ _ (hcell bf 3 _ l2 h.f3), hoth _ _ (by omega) h.f4, fun i => ?_, (h.map.kept hg (hnb m l4)).setCell h.mne _, own_num_far (row := some bf) ho ⟨rfl, rfl, rfl, by simp, fun k _ hk => Below.heap_setCell _ _ _ _ (fun e => hk (by rw [e]))⟩ (.inr fun e => by have := (ho.block _ e).1; omega), h.lts, h.ges, h.ne, ?_⟩
  · have := h.ff i
    rw [← World.frozen?_of_block (a := ⟨bf, i, none⟩) (hblk bf l2)] at this
    simpa using this
  · have := hg.size
    simp
    omega
theorem set4 (h : VSt wo w b1 ba bs bf bv m en S q C L A c) (L' : Bool) : VSt wo (w.setCell ⟨bf, 4, none⟩ (.bool L')) b1 ba bs bf bv m en S q C L' A c := by
  obtain ⟨l1, l2, l3, l4⟩ := h.lts
  have hfar : ∀ (d j : Nat) (u : Value), d ≠ bf → w.cell? ⟨d, j, none⟩ = some u → (w.setCell ⟨bf, 4, none⟩ (.bool L')).cell? ⟨d, j, none⟩ = some u := fun d j u hne hu =>
    (World.cell?_setCell_other _ _ _ _ (fun e => hne (by have := congrArg Addr.block e; exact this.symm))).trans hu
  have hoth : ∀ (j : Nat) (u : Value), j ≠ 4 → w.cell? ⟨bf, j, none⟩ = some u → (w.setCell ⟨bf, 4, none⟩ (.bool L')).cell? ⟨bf, j, none⟩ = some u := fun j u hj hu =>
    (World.cell?_setCell_other _ _ _ _ (fun e => hj (by have := congrArg Addr.off e; exact this.symm))).trans hu
  exact ⟨h.ext.setCell h.ges.2.1 _, hfar _ _ _ h.ne.1 h.s, hfar _ _ _ h.ne.2 h.v, hoth _ _ (by omega) h.f0, hoth _ _ (by omega) h.f1, hoth _ _ (by omega) h.f2, hoth _ _ (by omega) h.f3, World.cell?_setCell_same _ _ _ h.f4, fun i => by rw [World.frozen?_setCell]; exact h.ff i, h.map.setCell h.mne _,
    own_num_far (row := some bf) h.own ⟨rfl, rfl, rfl, by simp, fun k _ hk => Below.heap_setCell _ _ _ _ (fun e => hk (by rw [e]))⟩ (.inr fun e => by have := (h.own.block _ e).1; omega), h.lts, h.ges, h.ne, by simpa using h.le⟩
end VSt
end Go.Proofs.YtnlmhnbogleijaaGreatDoor

namespace Go.Proofs.YtnlmhnbogleijaaGreatDoor
open Go Go.RowKit Go.Deco
set_option linter.unusedSimpArgs false
set_option linter.unusedVariables false

/-- The blocks by their addresses, as a map's entries. -/
def AtF (b : List Bs) (wo : World) (F : Nat → Option Value) : Prop :=
  (∀ x, blkA b x = none → F x = none) ∧ ∀ x s, blkA b x = some s → ∃ v1 v2 v3, F x = some (.agg #[.int .u32 s.addr, .int .u32 s.end_, v1, v2, v3]) ∧ Sl insR wo All v1 s.ins ∧ Sl u32R wo All v2 s.succ ∧ Sl u32sR wo All v3 s.calls
theorem zero_bas (w : World) : (zeroValue 55).run Tryz.prog w = .ok (.agg #[.int .u32 0, .int .u32 0, .slice none 0 0, .slice none 0 0, .slice none 0 0]) w := by kernel_rfl
theorem call_fc38 : ∀ args w, (callFunc 35 args).run Tryz.prog w = .ok (.enter 35 args) w := fun args w => callFunc_enter Tryz.func35 (by kernel_rfl) rfl args w
def callsTo (ins : List In) (k : Nat) : List Nat := ((ins.take k).filter fun i => decide (i.op = 23)).map In.imm
def leafTo (ins : List In) (k : Nat) : Bool := (ins.take k).all fun i => !decide (i.op = 23) && !decide (i.op = 24)
theorem callsTo_hit {ins : List In} {k : Nat} {i : In} (h : ins[k]? = some i) (ho : i.op = 23) : callsTo ins (k + 1) = callsTo ins k ++ [i.imm] := by
  unfold callsTo
  rw [take_snoc' h, List.filter_append, List.map_append]
  simp [ho]
theorem callsTo_miss {ins : List In} {k : Nat} {i : In} (h : ins[k]? = some i) (ho : ¬ i.op = 23) : callsTo ins (k + 1) = callsTo ins k := by
  unfold callsTo
  rw [take_snoc' h, List.filter_append, List.map_append]
  simp [ho]
theorem leafTo_step {ins : List In} {k : Nat} {i : In} (h : ins[k]? = some i) : leafTo ins (k + 1) = (leafTo ins k && (!decide (i.op = 23) && !decide (i.op = 24))) := by
  unfold leafTo
  rw [take_snoc' h, List.all_append]
  simp
theorem callsTo_len (ins : List In) (k : Nat) : (callsTo ins k).length ≤ k := by
  unfold callsTo
  rw [List.length_map]
  exact Nat.le_trans (List.length_filter_le _ _) (by rw [List.length_take]; omega)

def VbPost (b : List Bs) (U : List Nat) (wo : World) (b1 ba bs bf bv m en a : Nat) (S : Nat → Bool) (q : Nat) (C : List Nat) (L : Bool) (e : Ending) (w' : World) : Prop :=
  e = .returned (.tuple #[]) ∧ ∃ S' q' C' L' A' c', VSt wo w' b1 ba bs bf bv m en S' q' C' L' A' c' ∧ VisB b a S S' C C' L L' ∧ unseen U S' ≤ unseen U S ∧ q' + unseen U S' ≤ q + unseen U S ∧ C'.length + 1000 * unseen U S' ≤ C.length + 1000 * unseen U S

set_option maxRecDepth 100000 in
set_option maxHeartbeats 2000000 in
theorem vb_none (b : List Bs) (U : List Nat) (wo : World) (b1 ba bs bf bv m en ma qa : Nat) (F : Nat → Option Value) (hF : AtF b wo F) (hma : MapG (u32K Tryz.underlying38) wo ma qa F) (cba : wo.cell? ⟨ba, 0, none⟩ = some (.map (some ma))) (w : World) (a : Nat) (S : Nat → Bool) (q : Nat) (C : List Nat) (L : Bool) (A : Option Addr) (c : Nat)
    (h : VSt wo w b1 ba bs bf bv m en S q C L A c) (ha : a < 4294967296) (hn : blkA b a = none) :
    Calls Tryz.prog 35 #[.int .u32 a, .pointer (some ⟨ba, 0, none⟩), .pointer (some ⟨bs, 0, none⟩), .pointer (some ⟨bf, 0, none⟩), .pointer (some ⟨bv, 0, none⟩)] w (VbPost b U wo b1 ba bs bf bv m en a S q C L) := by
  have hf : F a = none := hF.1 a hn
  have HV : Hid ((F a).getD (.agg #[.int .u32 0, .int .u32 0, .slice none 0 0, .slice none 0 0, .slice none 0 0]) = .agg #[.int .u32 0, .int .u32 0, .slice none 0 0, .slice none 0 0, .slice none 0 0]) := hid (by rw [hf]; rfl)
  have HI : Hid ((F a).isSome = false) := hid (by rw [hf]; rfl)
  have HM := hid (hma.ext h.ext)
  have c0 := h.ext.cell cba
  have HH := hid h
  have HN := hid hn
  clear hf hF hma cba h hn
  go_enter Tryz.func35, Tryz.ntmps35
  go_wp2_with (first
    | (at_lookup; refine wpList_lookOk _ rfl (.tmp 13) (.tmp 14) 54 rfl 55 Tryz.underlying54 _ (zero_bas _) (u32K Tryz.underlying38) ma qa F rfl HM.out a rfl ha _ HV.out false HI.out ?_)
    | fail)
  (try simp only [Exit.inBlock, Exit.then]); refine bodyPost_ret (results_none rfl _ _ _) rfl ?_
  exact ⟨rfl, S, q, C, L, A, c, HH.out.more ((Ext.refl w).alloc _), VisB.same (fun hb => by unfold isB at hb; rw [HN.out] at hb; cases hb), Nat.le_refl _, Nat.le_refl _, Nat.le_refl _⟩

set_option maxRecDepth 100000 in
set_option maxHeartbeats 2000000 in
theorem vb_seen (b : List Bs) (U : List Nat) (wo : World) (b1 ba bs bf bv m en ma qa : Nat) (F : Nat → Option Value) (hF : AtF b wo F) (hma : MapG (u32K Tryz.underlying38) wo ma qa F) (cba : wo.cell? ⟨ba, 0, none⟩ = some (.map (some ma))) (w : World) (a : Nat) (S : Nat → Bool) (q : Nat) (C : List Nat) (L : Bool) (A : Option Addr) (c : Nat)
    (h : VSt wo w b1 ba bs bf bv m en S q C L A c) (ha : a < 4294967296) (s : Bs) (hn : blkA b a = some s) (hs : S a = true) :
    Calls Tryz.prog 35 #[.int .u32 a, .pointer (some ⟨ba, 0, none⟩), .pointer (some ⟨bs, 0, none⟩), .pointer (some ⟨bf, 0, none⟩), .pointer (some ⟨bv, 0, none⟩)] w (VbPost b U wo b1 ba bs bf bv m en a S q C L) := by
  obtain ⟨v1, v2, v3, hf, h1, h2, h3⟩ := hF.2 a s hn
  obtain ⟨A1, c1, rfl, -⟩ := h1.form
  obtain ⟨A2, c2, rfl, -⟩ := h2.form
  obtain ⟨A3, c3, rfl, -⟩ := h3.form
  obtain ⟨x0, x1, x2, x3, x4⟩ := s
  simp only [] at hf h1 h2 h3
  obtain ⟨l1, hl1⟩ : ∃ l1, x2.length = l1 := ⟨_, rfl⟩
  obtain ⟨l2, hl2⟩ : ∃ l2, x3.length = l2 := ⟨_, rfl⟩
  obtain ⟨l3, hl3⟩ : ∃ l3, x4.length = l3 := ⟨_, rfl⟩
  rw [hl1, hl2, hl3] at hf
  have HV : Hid ((F a).getD (.agg #[.int .u32 0, .int .u32 0, .slice none 0 0, .slice none 0 0, .slice none 0 0]) = .agg #[.int .u32 x0, .int .u32 x1, .slice A1 l1 c1, .slice A2 l2 c2, .slice A3 l3 c3]) := hid (by rw [hf]; rfl)
  have HI : Hid ((F a).isSome = true) := hid (by rw [hf]; rfl)
  have HM := hid (hma.ext h.ext)
  obtain ⟨W1, hW1⟩ : ∃ W1, w.alloc (.cells #[.int .u32 x0, .int .u32 x1, .slice A1 l1 c1, .slice A2 l2 c2, .slice A3 l3 c3] 55) = W1 := ⟨_, rfl⟩
  have hE1 : Ext w W1 := by rw [← hW1]; exact (Ext.refl w).alloc _
  have HMS := hid (h.map.ext hE1)
  have c0 := h.ext.cell cba
  have d1 := hE1.cell h.s
  have HH := hid (h.more hE1)
  have HSS := hid (setF_look S a true hs)
  have HS := hid hs
  clear hf hF hma cba h hn hs h1 h2 h3 hl1 hl2 hl3 hE1
  go_enter Tryz.func35, Tryz.ntmps35
  go_wp2_with (first
    | (at_lookup; refine wpList_lookOk _ rfl (.tmp 13) (.tmp 14) 54 rfl 55 Tryz.underlying54 _ (zero_bas _) (u32K Tryz.underlying38) ma qa F rfl HM.out a rfl ha _ HV.out true HI.out ?_)
    | ((with_reducible refine wpList_at_lookW 65 (.tmp 21) (.tmp 22) rfl ?_); refine wpList_lookW _ (by rfl) (.tmp 21) (.tmp 22) 65 rfl 4 Tryz.underlying65 (.bool false) (zero_bool _) (u32K Tryz.underlying38) m q (setF S) rfl HMS.out a rfl ha (.bool true) HSS.out ?_)
    | fail)
  (try simp only [Exit.inBlock, Exit.then]); refine bodyPost_ret (results_none rfl _ _ _) rfl ?_
  exact ⟨rfl, S, q, C, L, A, c, HH.out, VisB.same (fun _ => HS.out), Nat.le_refl _, Nat.le_refl _, Nat.le_refl _⟩
/-- 'append(p.f, l...)' at a step of a region that draws its order. -/
theorem step_appS32 {P : Program} {E : Type} {T : Nat → Prop} {ops : Array Oper} {o : Oper} {a : Act} {K : Act → World → Prop} {Q : Exit → Act → World → Prop} {X : Prop} {W : World} (hgd : o.guard = none) (s x : Operand) (t : TypeId)
    (ho : o.op = .call { callee := .builtin .append, args := #[s, x], argTypes := #[t, t] })
    (base : Nat) (e : TypeId) (i : TypeInfo) (z : Value) (size bytes : Nat) (ht : P.underlying t = some (.slice e)) (hi : P.info? e = some i) (hz : i.zero = some z)
    (hsize : i.size = size) (hby : i.bytes = bytes) (hzs : z.cells.size = size) (R : Rep E) (hR : R.size = size)
    (v : Value) (l : List E) (hs : a.eval s = v) (hown : OwnS R W base e T v l)
    (A : Option Addr) (m c : Nat) (ys : List E) (S : Nat → Prop) (hx : a.eval x = .slice A m c) (hsrc : Sl R W S (.slice A m c) ys) (hS : ∀ b, S b → IsCells W b → T b ∧ some b ≠ v.ownBlock)
    (h63 : l.length + m ≤ 9223372036854775807) (hbytes : (l.length + m) * bytes ≤ 140737488355328) (hbase : base ≤ W.heap.size)
    (h : ∀ A' c' W', OwnS R W' base e T (.slice A' (l.length + m) c') (l ++ ys) → W.grownBy W' v.ownBlock →
      ((Value.slice A' (l.length + m) c').ownBlock = v.ownBlock ∨ (Value.slice A' (l.length + m) c').ownBlock = some W.heap.size) → K (a.put o.dst (.slice A' (l.length + m) c')) W') :
    if Region.wanted o (yielded ops a.tmps) = true then Oper.wp P o a W K Q else X := by
  have hw : Region.wanted o (yielded ops a.tmps) = true := by simp [Region.wanted, hgd]
  rw [if_pos hw]
  obtain ⟨A', c', W', hrun, h2, h3, h4⟩ := run_append_any' (P := P) W t o.type e i z size bytes ht hi hz hsize hby hzs hR v l hown A m c ys hsrc hS h63 hbytes hbase
  unfold Oper.wp execOp
  simp only [ho, resolve, invoke, builtin, Sem.run_bind, Sem.run_pure, Result.andThen_ok, List.map_toArray, List.map_cons, List.map_nil, hs, hx, hrun]
  exact h A' c' W' h2 h3 h4
theorem adS_eq (S : Nat → Bool) (a : Nat) : adS S a = addB S a := rfl
theorem setF_ad (S : Nat → Bool) (a : Nat) : ∀ x, setF (adS S a) x = if x = a then some (.bool true) else setF S x := setF_add S a
theorem unseen_ad {U : List Nat} {S : Nat → Bool} {a : Nat} (ha : a ∈ U) (hs : S a = false) : unseen U (adS S a) < unseen U S := unseen_add ha hs
/-- Where the call list's row does not lie. -/
def RowNe (A : Option Addr) (n c bx : Nat) : Prop := ∀ g, (Value.slice A n c).ownBlock = some g → g ≠ bx
theorem ownCalls_eq (s : Bs) : ownCalls s = callsTo s.ins s.ins.length ++ s.calls.flatten := by
  unfold ownCalls callsTo
  rw [List.take_length]
theorem ownLeaf_eq (s : Bs) : ownLeaf s = leafTo s.ins s.ins.length := by
  unfold ownLeaf leafTo
  rw [List.take_length]

set_option maxRecDepth 100000 in
set_option maxHeartbeats 4000000 in
theorem vb_any (b : List Bs) (hb : ∀ s ∈ b, s.ins.length ≤ 100 ∧ s.calls.flatten.length ≤ 900) (U : List Nat) (hU : ∀ x, isB b x = true → x ∈ U) (wo : World) (b1 ba bs bf bv m en ma qa : Nat) (F : Nat → Option Value) (hF : AtF b wo F) (hma : MapG (u32K Tryz.underlying38) wo ma qa F) (cba : wo.cell? ⟨ba, 0, none⟩ = some (.map (some ma))) :
    ∀ (k : Nat) (w : World) (a : Nat) (S : Nat → Bool) (q : Nat) (C : List Nat) (L : Bool) (A : Option Addr) (c : Nat), a < 4294967296 → unseen U S ≤ k → q + unseen U S ≤ 2000 → C.length + 1000 * unseen U S ≤ 1000000 → VSt wo w b1 ba bs bf bv m en S q C L A c →
    Calls Tryz.prog 35 #[.int .u32 a, .pointer (some ⟨ba, 0, none⟩), .pointer (some ⟨bs, 0, none⟩), .pointer (some ⟨bf, 0, none⟩), .pointer (some ⟨bv, 0, none⟩)] w (VbPost b U wo b1 ba bs bf bv m en a S q C L) := by
  intro k
  induction k with
  | zero =>
    intro w a S q C L A c ha hk hq hC h
    cases hn : blkA b a with
    | none => exact vb_none b U wo b1 ba bs bf bv m en ma qa F hF hma cba w a S q C L A c h ha hn
    | some s =>
      cases hs : S a with
      | true => exact vb_seen b U wo b1 ba bs bf bv m en ma qa F hF hma cba w a S q C L A c h ha s hn hs
      | false => have := unseen_pos (hU a (isB_some hn)) hs; omega
  | succ k ih =>
    intro w a S q C L A c ha hk hq hC h
    cases hn : blkA b a with
    | none => exact vb_none b U wo b1 ba bs bf bv m en ma qa F hF hma cba w a S q C L A c h ha hn
    | some s =>
    cases hs : S a with
    | true => exact vb_seen b U wo b1 ba bs bf bv m en ma qa F hF hma cba w a S q C L A c h ha s hn hs
    | false =>
    have hlt := unseen_ad (hU a (isB_some hn)) hs
    have hsb := hb s (blkA_mem hn).1
    obtain ⟨v1, v2, v3, hf, h1, h2, h3⟩ := hF.2 a s hn
    obtain ⟨A1, c1, rfl, -⟩ := h1.form
    obtain ⟨A2, c2, rfl, -⟩ := h2.form
    obtain ⟨A3, c3, rfl, -⟩ := h3.form
    obtain ⟨l1, hl1⟩ : ∃ l1, s.ins.length = l1 := ⟨_, rfl⟩
    obtain ⟨l2, hl2⟩ : ∃ l2, s.succ.length = l2 := ⟨_, rfl⟩
    obtain ⟨l3, hl3⟩ : ∃ l3, s.calls.length = l3 := ⟨_, rfl⟩
    rw [hl1, hl2, hl3] at hf
    rw [hl1] at h1
    rw [hl2] at h2
    rw [hl3] at h3
    have HV : Hid ((F a).getD (.agg #[.int .u32 0, .int .u32 0, .slice none 0 0, .slice none 0 0, .slice none 0 0]) = .agg #[.int .u32 s.addr, .int .u32 s.end_, .slice A1 l1 c1, .slice A2 l2 c2, .slice A3 l3 c3]) := hid (by rw [hf]; rfl)
    have HI : Hid ((F a).isSome = true) := hid (by rw [hf]; rfl)
    obtain ⟨W1, hW1⟩ : ∃ W1, w.alloc (.cells #[.int .u32 s.addr, .int .u32 s.end_, .slice A1 l1 c1, .slice A2 l2 c2, .slice A3 l3 c3] 55) = W1 := ⟨_, rfl⟩
    have hE1 : Ext w W1 := by rw [← hW1]; exact (Ext.refl w).alloc _
    have y2 : W1.cell? ⟨w.heap.size, 2, none⟩ = some (.slice A1 l1 c1) := by rw [← hW1]; simp [go_sem]
    have y3 : W1.cell? ⟨w.heap.size, 3, none⟩ = some (.slice A2 l2 c2) := by rw [← hW1]; simp [go_sem]
    have y4 : W1.cell? ⟨w.heap.size, 4, none⟩ = some (.slice A3 l3 c3) := by rw [← hW1]; simp [go_sem]
    have HBS := hid hsb
    have HIH := hid ih
    have HLT := hid hlt
    have HK := hid hk
    have HQ := hid hq
    have HCC := hid hC
    have HNS := hid hn
    have HSF := hid hs
    have HM := hid (hma.ext h.ext)
    have c0 := h.ext.cell cba
    have HV1 := hid (h.more hE1)
    have HRN : Hid (RowNe A C.length c w.heap.size) := hid (fun g hg e => by have := (h.own.block g hg).2; omega)
    have d1 := HV1.out.s
    have HSS := hid (setF_look S a false hs)
    have HS1 := hid h1
    have HS2 := hid h2
    have HS3 := hid h3
    have HL1 := hid hl1
    have HL2 := hid hl2
    have HL3 := hid hl3
    have hq1 : q < 2000 := by omega
    have hb1h : bs ≠ w.heap.size := by have := h.lts; have := h.le; omega
    have HBX : Hid (w.heap.size < W1.heap.size ∧ b1 ≤ w.heap.size ∧ m ≠ w.heap.size) := hid ⟨by rw [← hW1]; simp, h.le, by have := h.lts; have := h.le; omega⟩
    obtain ⟨bx, hbx⟩ : ∃ bx, w.heap.size = bx := ⟨_, rfl⟩
    have HBX2 := hid hbx
    have hg := call_fc38
    clear ih hb hk hq hC hn hs hlt hsb hf h1 h2 h3 hl1 hl2 hl3 hE1 h cba hbx
    go_enter Tryz.func35, Tryz.ntmps35
    go_wp2_with (first
      | (at_lookup; refine wpList_lookOk _ rfl (.tmp 13) (.tmp 14) 54 rfl 55 Tryz.underlying54 _ (zero_bas _) (u32K Tryz.underlying38) ma qa F rfl HM.out a rfl ha _ HV.out true HI.out ?_)
      | ((with_reducible refine wpList_at_lookW 65 (.tmp 21) (.tmp 22) rfl ?_); refine wpList_lookW _ (by rfl) (.tmp 21) (.tmp 22) 65 rfl 4 Tryz.underlying65 (.bool false) (zero_bool _) (u32K Tryz.underlying38) m q (setF S) rfl HV1.out.map a rfl ha (.bool false) HSS.out ?_)
      | (at_mapUpdate; refine wpList_put _ rfl (.tmp 25) (.tmp 26) (.const (.bool true)) 65 rfl 4 Tryz.underlying65 (u32K Tryz.underlying38) m q (setF S) rfl HV1.out.map (by unfold maxLen; omega) a rfl ha (.bool true) rfl ?_; intro w2 hm2 hg2; have HV2 := hid (HV1.out.put (hm2.same (setF_ad S a)) hg2); have y2 := HV1.out.map.cell hg2 y2; have y3 := HV1.out.map.cell hg2 y3; have y4 := HV1.out.map.cell hg2 y4; have HZ2 := hid hg2.size; clear hm2 hg2)
      | fail)
    obtain ⟨k0, hkf, hk0, hk1, hk2⟩ := info_parts info_w32
    have HKF := hid hkf
    have HK0 := hid hk0
    have HK1 := hid hk1
    have HK2 := hid hk2
    have hl100 : l1 ≤ 100 := by have := HBS.out.1; have := HL1.out; omega
    rw [HBX2.out] at HRN HBX y3 y4
    have HY := hid (And.intro y3 y4)
    have HBXN := hid HBX.out.2.1
    have HBXL := hid HBX.out.1
    clear y2 y3 y4 d1 c0 hg hkf hk0 hk1 hk2
    go_loopw [30] (fun s30 wr => ∃ (t : Nat) (A' : Option Addr) (c' : Nat), t ≤ l1 ∧ s30 = .int .i64 t ∧ Hid (VSt wo wr b1 ba bs bf bv m en (adS S a) (q + 1) (C ++ callsTo s.ins t) (L && leafTo s.ins t) A' c') ∧ Hid (wr.cell? ⟨bx, 3, none⟩ = some (.slice A2 l2 c2) ∧ wr.cell? ⟨bx, 4, none⟩ = some (.slice A3 l3 c3)) ∧ Hid (RowNe A' (C ++ callsTo s.ins t).length c' bx) ∧ Hid (W1.heap.size ≤ wr.heap.size)) (fun s30 _ => l1 - (intOf s30).toNat)
    case atStart => exact ⟨0, A, c, by omega, rfl, hid (by simpa [callsTo, leafTo] using HV2.out), HY, hid (by simpa [callsTo] using HRN.out), HZ2⟩
    case round =>
      obtain ⟨t, A', c', ht, rfl, HVR, HYR, HRNR, HZR⟩ := hrel
      by_cases h1 : t < l1
      · obtain ⟨i, hi⟩ : ∃ i, s.ins[t]? = some i := ⟨_, List.getElem?_eq_getElem (by have := HL1.out; omega)⟩
        obtain ⟨bi, oi, rfl, hok, z0, z1, z2, z3, z4, z5, z6, z7, z8⟩ := Sl.in_at (HS1.out.ext HVR.out.ext) hi
        have hi32 := hok.2.1
        obtain ⟨W2, hW2⟩ : ∃ W2, wr.alloc (.cells #[.int .u32 i.addr, .int .u32 i.imm, .int .i64 i.op, .int .i64 i.form, .int .i64 i.width, .int .i64 i.cc, .int .i64 i.a, .int .i64 i.b, .int .i64 i.size] 77) = W2 := ⟨_, rfl⟩
        have hE2 : Ext wr W2 := by rw [← hW2]; exact (Ext.refl wr).alloc _
        have hB9 : Box9 W2 wr.heap.size i := by rw [← hW2]; exact Box9.new wr i _
        have HSZ : Hid (W2.heap.size = wr.heap.size + 1) := hid (by rw [← hW2]; simp)
        have hcl := callsTo_len s.ins t
        obtain ⟨CT, hCT⟩ : ∃ CT, C ++ callsTo s.ins t = CT := ⟨_, rfl⟩
        have hctl : CT.length ≤ 1000100 := by rw [← hCT, List.length_append]; have := HCC.out; omega
        obtain ⟨lf, hlf⟩ : ∃ lf, (L && leafTo s.ins t) = lf := ⟨_, rfl⟩
        rw [hCT, hlf] at HVR
        rw [hCT] at HRNR
        have HV3 := hid (HVR.out.more hE2)
        have HY3 := hid (And.intro (hE2.cell HYR.out.1) (hE2.cell HYR.out.2))
        have HI2 := hid hi
        have HLFO := hid hlf
        have HCTO := hid hCT
        obtain ⟨n, hn⟩ : ∃ n, CT.length = n := ⟨_, rfl⟩
        have HN := hid hn
        have x1 := hB9.c1
        have x2 := hB9.c2
        have f3 := HV3.out.f3
        have ff := HV3.out.ff
        have hbz : bf < wr.heap.size := by have := HVR.out.lts; have := HVR.out.le; omega
        rw [hn] at f3 hctl
        clear hi hok hB9 hE2 hcl hCT hlf hn
        by_cases h23 : i.op = 23
        · have n23 : (i.op == 23) = true := by simp [h23]
          have n23' : (i.op != 23) = false := by simp [h23]
          have HCT : Hid (C ++ callsTo s.ins (t + 1) = CT ++ [i.imm]) := hid (by rw [callsTo_hit HI2.out h23, ← List.append_assoc, HCTO.out])
          have HLF : Hid ((L && leafTo s.ins (t + 1)) = false) := hid (by rw [leafTo_step HI2.out, h23]; simp)
          have HOWN := hid HV3.out.own
          rw [HN.out] at HOWN
          clear h23
          go_upto_region 8 with (first
            | (at_builtin; refine wpList_app1l rfl (.tmp 38) (.tmp 41) 23 rfl b1 38 k0 _ 1 4 Tryz.underlying23 HKF.out HK0.out HK1.out HK2.out rfl u32R rfl (.slice A' n c') CT rfl HOWN.out W2.heap.size rfl i.imm rfl ⟨rfl, hi32⟩ (by rw [HN.out]; omega) (by rw [HN.out]; omega) HV3.out.le ?_; intro A5 c5 w5 hown5 hg5 hl5; have HO5 := hid hown5; have HG5 := hid hg5; have HL5 := hid hl5; have hb5 : w5.heap[bf]? = (W2.alloc _).heap[bf]? := hg5.block bf (by have := HSZ.out; simp; omega) (fun e => by have := (HOWN.out.block _ e.symm).1; have := HV3.out.lts; omega); have f3 := (World.cell?_of_block (a := ⟨bf, 3, none⟩) hb5).trans (((Ext.refl W2).alloc _).cell f3); have ff3 : w5.frozen? ⟨bf, 3, none⟩ = false := (World.frozen?_of_block (a := ⟨bf, 3, none⟩) hb5).trans (((HV3.out.more ((Ext.refl W2).alloc _))).ff 3); clear hown5 hg5 hl5)
            | fail)
          have hv6 := (HV3.out.more ((Ext.refl W2).alloc _)).set3 (C' := CT ++ [i.imm]) (A' := A5) (c' := c5) (by simpa using HO5.out) (by rw [HN.out]; exact HG5.out)
          simp only [List.length_append, List.length_singleton] at hv6
          obtain ⟨W6, hW6⟩ : ∃ W6, w5.setCell ⟨bf, 3, none⟩ (.slice A5 (CT.length + 1) c5) = W6 := ⟨_, rfl⟩
          rw [hW6] at hv6
          have hne4 : bf ≠ bx := by have := HBXN.out; have := HVR.out.lts; omega
          have x2 : W6.cell? ⟨wr.heap.size, 2, none⟩ = some (.int .i64 i.op) := by
            rw [← hW6]
            refine (World.cell?_setCell_other _ _ _ _ (fun e => by have := congrArg Addr.block e; have : bf = wr.heap.size := this; omega)).trans ((World.cell?_of_block (a := ⟨wr.heap.size, 2, none⟩) (HG5.out.block _ (by have := HSZ.out; simp; omega) (fun e => ?_))).trans (((Ext.refl W2).alloc _).cell x2))
            have : wr.heap.size < wr.heap.size := (HVR.out.own.block _ (by rw [HN.out]; exact e.symm)).2
            omega
          have hy6 : ∀ (j : Nat) (u : Value), W2.cell? ⟨bx, j, none⟩ = some u → W6.cell? ⟨bx, j, none⟩ = some u := fun j u hu => by
            rw [← hW6]
            refine (World.cell?_setCell_other _ _ _ _ (fun e => hne4 (congrArg Addr.block e))).trans ((World.cell?_of_block (a := ⟨bx, j, none⟩) (HG5.out.block _ (by have : bx < W2.heap.size := World.block_lt_of_cell? _ _ hu; simp; omega) (fun e => ?_))).trans (((Ext.refl W2).alloc _).cell hu))
            exact HRNR.out bx (by rw [HN.out]; exact e.symm) rfl
          have HY6 := hid (And.intro (hy6 _ _ HY3.out.1) (hy6 _ _ HY3.out.2))
          have HZ6 : Hid (W1.heap.size ≤ W6.heap.size) := hid (by rw [← hW6]; have h1 := HG5.out.size; have h2 := HSZ.out; have h3 := HZR.out; simp at h1 ⊢; omega)
          have HRN6 : Hid (RowNe A5 (CT ++ [i.imm]).length c5 bx) := hid (fun g hg e => by
            rw [List.length_append, List.length_singleton] at hg
            rcases HL5.out g hg with h1 | h1
            · exact HRNR.out g (by rw [HN.out]; exact h1) e
            · have h2 := HZR.out
              have h3 := HSZ.out
              have h4 := HBXL.out
              omega)
          have HV6 := hid hv6
          (try rw [← HN.out])
          rw [hW6]
          clear hW6 hv6 hy6 f3 ff3 hb5
          have f4 := HV6.out.f4
          have ff := HV6.out.ff
          cases lf with
          | false =>
            go_wp2
            first
              | go_roundw
              | refine ⟨?rel, ?measure⟩
            case rel =>
              have hset := HV6.out.set4 false
              have hne4 : bf ≠ bx := by have := HBXN.out; have := HVR.out.lts; omega
              refine ⟨t + 1, A5, c5, by omega, by go_num, hid ?_, hid ⟨?_, ?_⟩, hid ?_, hid ?_⟩
              · rw [HCT.out, HLF.out]
                exact hset
              · exact (World.cell?_setCell_other _ _ _ _ (fun e => hne4 (congrArg Addr.block e))).trans HY6.out.1
              · exact (World.cell?_setCell_other _ _ _ _ (fun e => hne4 (congrArg Addr.block e))).trans HY6.out.2
              · rw [HCT.out]
                exact HRN6.out
              · simpa using HZ6.out
            case measure => simp [intOf]; omega
          | true =>
            go_wp2
            first
              | go_roundw
              | refine ⟨?rel, ?measure⟩
            case rel =>
              have hset := HV6.out.set4 false
              have hne4 : bf ≠ bx := by have := HBXN.out; have := HVR.out.lts; omega
              refine ⟨t + 1, A5, c5, by omega, by go_num, hid ?_, hid ⟨?_, ?_⟩, hid ?_, hid ?_⟩
              · rw [HCT.out, HLF.out]
                exact hset
              · exact (World.cell?_setCell_other _ _ _ _ (fun e => hne4 (congrArg Addr.block e))).trans HY6.out.1
              · exact (World.cell?_setCell_other _ _ _ _ (fun e => hne4 (congrArg Addr.block e))).trans HY6.out.2
              · rw [HCT.out]
                exact HRN6.out
              · simpa using HZ6.out
            case measure => simp [intOf]; omega
        · have n23 : (i.op == 23) = false := by simp [h23]
          have n23' : (i.op != 23) = true := by simp [h23]
          have HO23 := hid h23
          have HCT : Hid (C ++ callsTo s.ins (t + 1) = CT) := hid (by rw [callsTo_miss HI2.out h23, HCTO.out])
          have HV6 := HV3
          have HY6 := HY3
          have HRN6 := HRNR
          have HZ6 : Hid (W1.heap.size ≤ W2.heap.size) := hid (by have := HZR.out; have := HSZ.out; omega)
          clear h23 f3 ff
          have f4 := HV6.out.f4
          have ff := HV6.out.ff
          cases lf with
          | false =>
            have HLF : Hid ((L && leafTo s.ins (t + 1)) = false) := hid (by rw [leafTo_step HI2.out, ← Bool.and_assoc, HLFO.out]; rfl)
            go_wp2
            first
              | go_roundw
              | refine ⟨?rel, ?measure⟩
            case rel =>
              have hset := HV6.out.set4 false
              have hne4 : bf ≠ bx := by have := HBXN.out; have := HVR.out.lts; omega
              refine ⟨t + 1, A', c', by omega, by go_num, hid ?_, hid ⟨?_, ?_⟩, hid ?_, hid ?_⟩
              · rw [HCT.out, HLF.out]
                exact hset
              · exact (World.cell?_setCell_other _ _ _ _ (fun e => hne4 (congrArg Addr.block e))).trans HY6.out.1
              · exact (World.cell?_setCell_other _ _ _ _ (fun e => hne4 (congrArg Addr.block e))).trans HY6.out.2
              · rw [HCT.out]
                exact HRN6.out
              · simpa using HZ6.out
            case measure => simp [intOf]; omega
          | true =>
            by_cases h24 : i.op = 24
            · have n24 : (i.op != 24) = false := by simp [h24]
              have HLF : Hid ((L && leafTo s.ins (t + 1)) = false) := hid (by rw [leafTo_step HI2.out, ← Bool.and_assoc, HLFO.out, h24]; rfl)
              clear h24
              go_wp2
              first
                | go_roundw
                | refine ⟨?rel, ?measure⟩
              case rel =>
                have hset := HV6.out.set4 false
                have hne4 : bf ≠ bx := by have := HBXN.out; have := HVR.out.lts; omega
                refine ⟨t + 1, A', c', by omega, by go_num, hid ?_, hid ⟨?_, ?_⟩, hid ?_, hid ?_⟩
                · rw [HCT.out, HLF.out]
                  exact hset
                · exact (World.cell?_setCell_other _ _ _ _ (fun e => hne4 (congrArg Addr.block e))).trans HY6.out.1
                · exact (World.cell?_setCell_other _ _ _ _ (fun e => hne4 (congrArg Addr.block e))).trans HY6.out.2
                · rw [HCT.out]
                  exact HRN6.out
                · simpa using HZ6.out
              case measure => simp [intOf]; omega
            · have n24 : (i.op != 24) = true := by simp [h24]
              have HLF : Hid ((L && leafTo s.ins (t + 1)) = true) := hid (by rw [leafTo_step HI2.out, ← Bool.and_assoc, HLFO.out]; simp [h24, HO23.out])
              clear h24
              go_wp2
              first
                | go_roundw
                | refine ⟨?rel, ?measure⟩
              case rel =>
                have hset := HV6.out.set4 true
                have hne4 : bf ≠ bx := by have := HBXN.out; have := HVR.out.lts; omega
                refine ⟨t + 1, A', c', by omega, by go_num, hid ?_, hid ⟨?_, ?_⟩, hid ?_, hid ?_⟩
                · rw [HCT.out, HLF.out]
                  exact hset
                · exact (World.cell?_setCell_other _ _ _ _ (fun e => hne4 (congrArg Addr.block e))).trans HY6.out.1
                · exact (World.cell?_setCell_other _ _ _ _ (fun e => hne4 (congrArg Addr.block e))).trans HY6.out.2
                · rw [HCT.out]
                  exact HRN6.out
                · simpa using HZ6.out
              case measure => simp [intOf]; omega
      · obtain rfl : t = l1 := by omega
        obtain ⟨CT, hCT⟩ : ∃ CT, C ++ callsTo s.ins t = CT := ⟨_, rfl⟩
        obtain ⟨lf, hlf⟩ : ∃ lf, (L && leafTo s.ins t) = lf := ⟨_, rfl⟩
        have hcl := callsTo_len s.ins t
        have hctl : CT.length ≤ 1000100 := by rw [← hCT, List.length_append]; have := HCC.out; omega
        have hctl2 : CT.length ≤ C.length + 100 := by rw [← hCT, List.length_append]; omega
        have hall : C ++ ownCalls s = CT ++ s.calls.flatten := by rw [ownCalls_eq, ← hCT, HL1.out, List.append_assoc]
        have hlall : (L && ownLeaf s) = lf := by rw [ownLeaf_eq, ← hlf, HL1.out]
        rw [hCT, hlf] at HVR
        rw [hCT] at HRNR
        obtain ⟨n, hn⟩ : ∃ n, CT.length = n := ⟨_, rfl⟩
        have HN := hid hn
        have HALL := hid hall
        have HLALL := hid hlall
        have HCT2 := hid hctl2
        have HFL : Hid (s.calls.flatten.length ≤ 900) := hid HBS.out.2
        have f3 := HVR.out.f3
        rw [hn] at f3 hctl
        have y4 : wr.cell? ⟨w.heap.size, 4, none⟩ = some (.slice A3 l3 c3) := by rw [HBX2.out]; exact HYR.out.2
        have HCO := hid (fun W (h : Ext wo W) => concat32_any W A3 l3 c3 s.calls (HS3.out.ext h) (by have := HBS.out.2; omega))
        obtain ⟨FT, hFT⟩ : ∃ FT, s.calls.flatten = FT := ⟨_, rfl⟩
        rw [hFT] at HCO HALL HFL
        obtain ⟨fm, hfm⟩ : ∃ fm, FT.length = fm := ⟨_, rfl⟩
        have hfm9 : fm ≤ 900 := by have := HFL.out; omega
        have HFM := hid hfm
        clear hCT hlf hcl hall hlall hn hctl2 hFT hfm
        go_wp2_with fail
        refine wp_region_split 7 (by kernel_rfl) rfl rfl (by kernel_rfl) (fun w' => w'.cell? ⟨bf, 3, none⟩ = some (.slice A' n c') ∧ w'.cell? ⟨w.heap.size, 4, none⟩ = some (.slice A3 l3 c3)) ⟨f3, y4⟩ (fun hSg1q0 => ?_)
        refine wpAnyH_takeL (i := 0) (v := ?g1qv0) rfl (by kernel_rfl) (by kernel_rfl) (by kernel_rfl) (fun _ _ _ h => h) (Or.inl ⟨by rfl, ?g1qy0⟩) (by assumption) ?g1qr0
        case g1qy0 => first | (intro w hSw; (try dsimp only at hSw); go_simp; done) | (intro w hSw; (try dsimp only at hSw); go_simp; with_reducible rfl)
        case' g1qr0 => try simp only [Act.put, List.setIfInBounds_toArray, List.set_cons_zero, List.set_cons_succ]
        refine wpAnyH_takeL (i := 1) (v := ?g1qv1) rfl (by kernel_rfl) (by kernel_rfl) (by kernel_rfl) (fun _ _ _ h => h) (Or.inl ⟨by rfl, ?g1qy1⟩) (by assumption) ?g1qr1
        case g1qy1 => first | (intro w hSw; (try dsimp only at hSw); go_simp; done) | (intro w hSw; (try dsimp only at hSw); go_simp; with_reducible rfl)
        case' g1qr1 => try simp only [Act.put, List.setIfInBounds_toArray, List.set_cons_zero, List.set_cons_succ]
        refine wpAnyH_takeL (i := 2) (v := ?g1qv2) rfl (by kernel_rfl) (by kernel_rfl) (by kernel_rfl) (fun _ _ _ h => h) (Or.inl ⟨by rfl, ?g1qy2⟩) (by assumption) ?g1qr2
        case g1qy2 => first | (intro w hSw; (try dsimp only at hSw); go_simp; done) | (intro w hSw; (try dsimp only at hSw); go_simp; with_reducible rfl)
        case' g1qr2 => try simp only [Act.put, List.setIfInBounds_toArray, List.set_cons_zero, List.set_cons_succ]
        refine wpAnyH_takeL (i := 3) (v := ?g1qv3) rfl (by kernel_rfl) (by kernel_rfl) (by kernel_rfl) (fun _ _ _ h => h) (Or.inl ⟨by rfl, ?g1qy3⟩) (by assumption) ?g1qr3
        case g1qy3 => first | (intro w hSw; (try dsimp only at hSw); go_simp; done) | (intro w hSw; (try dsimp only at hSw); go_simp; with_reducible rfl)
        case' g1qr3 => try simp only [Act.put, List.setIfInBounds_toArray, List.set_cons_zero, List.set_cons_succ]
        refine wpAnyH_ready (rs := [4]) (by kernel_rfl) (by simp) ?_
        refine AllReadyH.consL rfl (fun K hK => ?_) AllReadyH.nil
        go_simp
        go_at_call 36
        refine (HCO.out _ HVR.out.ext.drew).mono ?_
        rintro e w5 ⟨hx5, A5, c5, rfl, ho5⟩
        have HX5 := hid hx5.drew_left
        rw [HFM.out] at ho5 ⊢
        have HO5 := hid (ho5.num_sl (S := fun d => wr.heap.size ≤ d) (fun k hk => hk))
        clear hx5 ho5
        refine hK.out _ _ ⟨HX5.out.cell f3, HX5.out.cell y4⟩ (fun hSg1q1 => ?_)
        clear hK K
        try simp only [Act.put, List.setIfInBounds_toArray, List.set_cons_zero, List.set_cons_succ]
        refine wpAnyH_ready (rs := [5]) (by kernel_rfl) (by simp) ?_
        refine AllReadyH.consL rfl (fun K hK => ?_) AllReadyH.nil
        have HV5 := hid (HVR.out.more HX5.out)
        have hown5 := HV5.out.own
        rw [HN.out] at hown5
        have HW5 := hid hown5
        have HSZ5 := hid HX5.out.size
        have HYB := hid (And.intro (HX5.out.cell HYR.out.1) (HX5.out.cell HYR.out.2))
        refine step_appS32 rfl (.tmp 59) (.tmp 62) 23 rfl b1 38 k0 _ 1 4 Tryz.underlying23 HKF.out HK0.out HK1.out HK2.out rfl u32R rfl (.slice A' n c') CT rfl HW5.out A5 fm c5 FT (fun d => wr.heap.size ≤ d) rfl (HO5.out.ext (Ext.refl _)) (fun d hd _ => ⟨trivial, fun e => by have := (HVR.out.own.block _ (by rw [HN.out]; exact e.symm)).2; omega⟩) (by rw [HN.out]; omega) (by rw [HN.out]; omega) HV5.out.le ?_
        intro A9 c9 w9 hown9 hg9 hl9
        have HO9 := hid hown9
        have HG9 := hid hg9
        have HL9 := hid hl9
        have hbx9 : ∀ (j : Nat) (u : Value), w5.cell? ⟨bf, j, none⟩ = some u → w9.cell? ⟨bf, j, none⟩ = some u := fun j u hu => (World.cell?_of_block (a := ⟨bf, j, none⟩) (HG9.out.block bf (World.block_lt_of_cell? _ _ hu) (fun e => by have := (HW5.out.block _ e.symm).1; have := HVR.out.lts; omega))).trans hu
        have hyx9 : ∀ (j : Nat) (u : Value), w5.cell? ⟨bx, j, none⟩ = some u → w9.cell? ⟨bx, j, none⟩ = some u := fun j u hu => (World.cell?_of_block (a := ⟨bx, j, none⟩) (HG9.out.block bx (World.block_lt_of_cell? _ _ hu) (fun e => HRNR.out bx (by rw [HN.out]; exact e.symm) rfl))).trans hu
        have f39 := hbx9 _ _ (HX5.out.cell f3)
        have ff9 : w9.frozen? ⟨bf, 3, none⟩ = false := (World.frozen?_of_block (a := ⟨bf, 3, none⟩) (HG9.out.block bf (World.block_lt_of_cell? _ _ (HX5.out.cell f3)) (fun e => by have := (HW5.out.block _ e.symm).1; have := HVR.out.lts; omega))).trans (HV5.out.ff 3)
        have HY9 := hid (And.intro (hyx9 _ _ HYB.out.1) (hyx9 _ _ HYB.out.2))
        clear hown9 hg9 hl9 hown5 hbx9 hyx9
        refine hK.out _ _ ⟨f39, by rw [HBX2.out]; exact HY9.out.2⟩ (fun hSg1q2 => ?_)
        clear hK K
        try simp only [Act.put, List.setIfInBounds_toArray, List.set_cons_zero, List.set_cons_succ]
        refine wpAnyH_takeL (i := 6) (v := ?g1qv6) rfl (by kernel_rfl) (by kernel_rfl) (by kernel_rfl) (fun _ _ _ h => h) (Or.inl ⟨by rfl, ?g1qy6⟩) (by assumption) ?g1qr6
        case g1qy6 => first | (intro w hSw; (try dsimp only at hSw); go_simp; done) | (intro w hSw; (try dsimp only at hSw); go_simp; with_reducible rfl)
        case' g1qr6 => try simp only [Act.put, List.setIfInBounds_toArray, List.set_cons_zero, List.set_cons_succ]
        refine wpAnyH_done (by kernel_rfl) ?_ _
        change wpList _ _ _ _ _ _
        go_upto_region 11 with fail
        have hv9 := HV5.out.set3 (C' := CT ++ FT) (A' := A9) (c' := c9) (by simpa [HFM.out] using HO9.out) (by rw [HN.out]; exact HG9.out)
        rw [List.length_append, HFM.out] at hv9
        obtain ⟨W9, hW9⟩ : ∃ W9, w9.setCell ⟨bf, 3, none⟩ (.slice A9 (CT.length + fm) c9) = W9 := ⟨_, rfl⟩
        rw [hW9] at hv9
        have hne4 : bf ≠ bx := by have := HBXN.out; have := HVR.out.lts; omega
        have y3 : W9.cell? ⟨w.heap.size, 3, none⟩ = some (.slice A2 l2 c2) := by
          rw [← hW9, HBX2.out]
          exact (World.cell?_setCell_other _ _ _ _ (fun e => hne4 (congrArg Addr.block e))).trans HY9.out.1
        have HV9 := hid hv9
        have hvl := VisBL.start (C := C) (L := L) HNS.out HSF.out
        rw [HALL.out, HLALL.out] at hvl
        have HVL := hid hvl
        have HB9 : Hid (unseen U (adS S a) ≤ unseen U (adS S a) ∧ q + 1 + unseen U (adS S a) ≤ q + 1 + unseen U (adS S a) ∧ (CT ++ FT).length + 1000 * unseen U (adS S a) ≤ CT.length + fm + 1000 * unseen U (adS S a)) := hid ⟨Nat.le_refl _, Nat.le_refl _, by rw [List.length_append, HFM.out]; exact Nat.le_refl _⟩
        rw [hW9]
        clear hW9 hv9 hvl f39 ff9 hne4 f3 y4
        have hl2c := HS2.out.cap
        go_wp2
        clear y3
        go_loopw [68] (fun s68 wi => ∃ (j : Nat) (S' : Nat → Bool) (q' : Nat) (C' : List Nat) (L' : Bool) (A' : Option Addr) (c' : Nat), j ≤ l2 ∧ s68 = .int .i64 j ∧ Hid (VSt wo wi b1 ba bs bf bv m en S' q' C' L' A' c') ∧ Hid (VisBL b a s S S' C C' L L' j) ∧ Hid (unseen U S' ≤ unseen U (adS S a) ∧ q' + unseen U S' ≤ q + 1 + unseen U (adS S a) ∧ C'.length + 1000 * unseen U S' ≤ CT.length + fm + 1000 * unseen U (adS S a))) (fun s68 _ => l2 - (intOf s68).toNat)
        case atStart => exact ⟨0, adS S a, q + 1, CT ++ FT, lf, A9, c9, by omega, rfl, HV9, HVL, HB9⟩
        case round =>
          obtain ⟨j, S', q', C', L', A', c', hj, rfl, HVJ, HVB, HBJ⟩ := hrel
          by_cases h2 : j < l2
          · obtain ⟨x, hx⟩ : ∃ x, s.succ[j]? = some x := ⟨_, List.getElem?_eq_getElem (by have := HL2.out; omega)⟩
            obtain ⟨bz, oz, rfl, cx, hx32⟩ := Sl.num_at (HS2.out.ext HVJ.out.ext) hx
            have HX := hid hx
            have dv := HVJ.out.v
            have hg := call_fc38
            have HR := hid (HIH.out wr x S' q' C' L' A' c' hx32 (by have := HBJ.out; have := HK.out; have := HLT.out; omega) (by have := HBJ.out; have := HQ.out; have := HLT.out; omega) (by have := HBJ.out; have := HCC.out; have := HLT.out; have := HCT2.out; omega) HVJ.out)
            clear hx
            go_wp2_with fail
            refine (HR.out).mono ?_
            rintro e w3 ⟨rfl, S3, q3, C3, L3, A3', c3', hv3, hb3, hu1, hu2, hu3⟩
            have HV3 := hid hv3
            have HB3 := hid (HVB.out.step HNS.out HX.out hb3)
            have HU3 := hid (And.intro (Nat.le_trans hu1 HBJ.out.1) (And.intro (Nat.le_trans hu2 HBJ.out.2.1) (Nat.le_trans hu3 HBJ.out.2.2)))
            clear hv3 hb3 hu1 hu2 hu3 dv cx hg
            go_wp2
            first
              | go_roundw
              | refine ⟨?rel, ?measure⟩
            case rel => exact ⟨j + 1, S3, q3, C3, L3, A3', c3', by omega, by go_num, HV3, HB3, HU3⟩
            case measure => simp [intOf]; omega
          · obtain rfl : j = l2 := by omega
            go_wp2
            (try simp only [Exit.inBlock, Exit.then]); refine bodyPost_ret (results_none rfl _ _ _) rfl ?_
            refine ⟨rfl, S', q', C', L', A', c', HVJ.out, HVB.out.fin HNS.out (by rw [HL2.out]; exact Nat.le_refl _), ?_, ?_, ?_⟩
            · have := HBJ.out; have := HLT.out; omega
            · have := HBJ.out; have := HLT.out; omega
            · have := HBJ.out; have := HLT.out; have := HCT2.out; omega
end Go.Proofs.YtnlmhnbogleijaaGreatDoor
