/- The walk of funcs.Order: first its first loop: the entries, and what each leads to. -/
import Derived.Test.YtnlmhnbogleijaaGreatDoorFunCm
import Derived.Test.YtnlmhnbogleijaaGreatDoorReg
import Derived.Test.YtnlmhnbogleijaaGreatDoorSplit
import Derived.Deep.DeepCutAuto
import Derived.BigFrame
namespace Go.Deco
open Go Go.RowKit
/-- A filter for an arm: the operation at hand is just this look-up. -/
theorem wpList_at_look {P : Program} {ops : Array Oper} {rest : List Oper} {o : Oper} {a : Act} {Q : Exit → Act → World → Prop} {W : World} (t : TypeId) (m x : Operand) (_hgd : o.guard = none)
    (_ho : o.op = .lookup t m x false) (h : wpList P ops Q (o :: rest) a W) : wpList P ops Q (o :: rest) a W := h
/-- 'm[k]' behind a guard that says yes. -/
theorem wpList_lookW {P : Program} {k : TypeId} {κ : Type} (w : World) {ops : Array Oper} {rest : List Oper} {o : Oper} {a : Act} {Q : Exit → Act → World → Prop} (hw : Region.wanted o (yielded ops a.tmps) = true) (m x : Operand) (t : TypeId) (hop : o.op = Op.lookup t m x false) (e : TypeId) (ht : P.underlying t = some (.map k e)) (z : Value) (hz : (zeroValue e).run P w = .ok z w)
    (G : KeyG P k κ) (b n : Nat) (f : κ → Option Value) (hm : a.eval m = .map (some b)) (h : MapG G w b n f) (kx : κ) (hx : a.eval x = G.val kx) (hok : G.ok kx) (v : Value) (hv : (f kx).getD z = v)
    (hK : wpList P ops Q rest (a.put o.dst v) w) : wpList P ops Q (o :: rest) a w := by
  refine BigFrame.wpList_want hw fun K' hK' => ?_
  obtain ⟨D, h1, h2⟩ := h
  have hrun := (ownsMap_look h1 G.law ht hz (G.key hok)).1
  rw [← h2, hv] at hrun
  unfold Oper.wp
  simp [execOp, hop, hm, hx, hrun, Result.andThen]
  exact hK' _ _ hK
theorem wpList_at_lookW {P : Program} {ops : Array Oper} {rest : List Oper} {o : Oper} {a : Act} {Q : Exit → Act → World → Prop} {W : World} (t : TypeId) (m x : Operand)
    (_ho : o.op = .lookup t m x false) (h : wpList P ops Q (o :: rest) a W) : wpList P ops Q (o :: rest) a W := h
theorem own_cells {E : Type} {R : Rep E} {w : World} {base : Nat} {e : TypeId} {T : Nat → Prop} {v : Value} {l : List E} (h : OwnS R w base e T v l) {g : Nat} (hg : v.ownBlock = some g) : IsCells w g := by
  obtain ⟨xs, ho, _⟩ := h
  rcases ho.2 with ⟨rfl, _⟩ | ⟨g', cap, cur, rfl, _, hb, _⟩
  · simp [Value.ownBlock] at hg
  · obtain rfl := own_at hg
    exact ⟨_, _, _, hb⟩
theorem own_map {E : Type} {R : Rep E} {w w' : World} {base : Nat} {e : TypeId} {T : Nat → Prop} {v : Value} {l : List E} {P : Program} {k : TypeId} {κ : Type} {G : KeyG P k κ} {b n : Nat} {f : κ → Option Value}
    (h : OwnS R w base e T v l) (hm : MapG G w b n f) (hg : w.grownBy w' (some b)) : OwnS R w' base e T v l :=
  h.kept hg (by
    cases ho : v.ownBlock with
    | none => exact .inl rfl
    | some g => exact .inr fun e => hm.ne (own_cells h ho) (by injection e)) fun q _ _ hq => hm.block hg hq
theorem own_T {E : Type} {R : Rep E} {w : World} {base : Nat} {e : TypeId} {T T' : Nat → Prop} {v : Value} {l : List E} (h : OwnS R w base e T v l) (hT : ∀ b, T b → IsCells w b → T' b) : OwnS R w base e T' v l := by
  obtain ⟨xs, ho, hc⟩ := h
  exact ⟨xs, ho, hc.mono fun b hb hi => ⟨hT b hb.1 hi, hb.2⟩⟩
theorem own_num_far {w w' : World} {T : Nat → Prop} {kd : IntKind} {bd base : Nat} {e : TypeId} {v : Value} {l : List Nat} {row : Option Nat} (h : OwnS (numR kd bd) w base e T v l) (hg : w.grownBy w' row) (hne : v.ownBlock = none ∨ v.ownBlock ≠ row) : OwnS (numR kd bd) w' base e T v l := by
  obtain ⟨xs, ho, hc⟩ := h
  exact ⟨xs, ho.kept hg hne, chunks_num.2 (chunks_num.1 hc)⟩
end Go.Deco
namespace Go.Proofs.YtnlmhnbogleijaaGreatDoor
open Go.RowKit Go.Deco
set_option linter.unusedSimpArgs false
set_option linter.unusedVariables false

/-- What the map of maps holds. -/
def Leads (w : World) (L : Nat) (B : Nat → Nat → Bool) (f : Nat → Option Value) (M : List Nat) : Prop :=
  ∀ x ∈ M, ∃ m q S, f x = some (.map (some m)) ∧ m ≠ L ∧ MapG (u32K Tryz.underlying38) w m q (setF S) ∧ ∀ y, S y = B x y
theorem Leads.kept {w w' : World} {L : Nat} {B : Nat → Nat → Bool} {f : Nat → Option Value} {M : List Nat} {row : Option Nat} (h : Leads w L B f M) (hg : w.grownBy w' row) (hr : ∀ m, some m = row → IsCells w m ∨ m = L) : Leads w' L B f M := by
  intro x hx
  obtain ⟨m, q, S, h1, h2, h3, h4⟩ := h x hx
  refine ⟨m, q, S, h1, h2, h3.kept hg fun e => ?_, h4⟩
  rcases hr m e with h5 | h5
  · exact h3.ne h5 rfl
  · exact h2 h5
theorem Leads.ext {w w' : World} {L : Nat} {B : Nat → Nat → Bool} {f : Nat → Option Value} {M : List Nat} (h : Leads w L B f M) (he : Ext w w') : Leads w' L B f M := h.kept (he.grownBy none) (by simp)
theorem Leads.put {w : World} {L : Nat} {B : Nat → Nat → Bool} {f : Nat → Option Value} {M : List Nat} (h : Leads w L B f M) {a m q : Nat} {S : Nat → Bool} (ha : a ∉ M) (hm : m ≠ L) (h1 : MapG (u32K Tryz.underlying38) w m q (setF S)) (h2 : ∀ y, S y = B a y) :
    Leads w L B (fun j => if j = a then some (.map (some m)) else f j) (M ++ [a]) := by
  intro x hx
  rcases List.mem_append.1 hx with hx | hx
  · obtain ⟨m', q', S', h3, h4⟩ := h x hx
    exact ⟨m', q', S', by
      have : ¬ x = a := fun e => ha (by rw [← e]; exact hx)
      simp only [if_neg this]
      exact h3, h4⟩
  · simp at hx
    subst hx
    exact ⟨m, q, S, by simp, hm, h1, h2⟩

theorem sorted_nodup {M : List Nat} (h : M.Nodup) : sorted32 M = asc M := asc_of (sorted32_lt h) fun a => sorted32_mem
theorem zero_mapB : ∀ w, (zeroValue 65).run Tryz.prog w = .ok (.map none) w := fun w => by kernel_rfl
theorem info_sl : (Tryz.prog.info? 23).map (fun i => (i.zero, i.size, i.bytes)) = some (some (.slice none 0 0), 1, 24) := by kernel_rfl

/-- The entries and what they lead to, in memory; all of it below block K. -/
structure OrdW (w : World) (L K : Nat) (B : Nat → Nat → Bool) (E : List Nat) (eA : Option Addr) (ec : Nat) : Prop where
  ent : Sl u32R w (fun b => b < K) (.slice eA E.length ec) E
  lt : L < K
  lead : ∃ q f, MapG (u32K Tryz.underlying38) w L q f ∧ Leads w L B f E ∧ ∀ x ∈ E, ∀ m, f x = some (.map (some m)) → m < K
theorem OrdW.ext {w w' : World} {L K : Nat} {B : Nat → Nat → Bool} {E : List Nat} {eA : Option Addr} {ec : Nat} (h : OrdW w L K B E eA ec) (he : Ext w w') : OrdW w' L K B E eA ec := by
  obtain ⟨q, f, h1, h2, h3⟩ := h.lead
  exact ⟨h.ent.ext he, h.lt, q, f, h1.ext he, h2.ext he, h3⟩
theorem OrdW.grown {w w' : World} {L K : Nat} {B : Nat → Nat → Bool} {E : List Nat} {eA : Option Addr} {ec : Nat} {row : Option Nat} (h : OrdW w L K B E eA ec) (hg : w.grownBy w' row) (hb : ∀ g, row = some g → K ≤ g) : OrdW w' L K B E eA ec := by
  obtain ⟨q, f, h1, h2, h3⟩ := h.lead
  have hlt := h.lt
  refine ⟨h.ent.keep fun b hb' hc => hg.block b hc.lt fun e => by have := hb b e.symm; omega, hlt, q, f, h1.kept hg (fun e => by have := hb L e.symm; omega), fun x hx => ?_, h3⟩
  obtain ⟨m, q', S, h4, h5, h6, h7⟩ := h2 x hx
  have := h3 x hx m h4
  exact ⟨m, q', S, h4, h5, h6.kept hg (fun e => by have := hb m e.symm; omega), h7⟩

def SlssPost (w : World) (o : List (List Nat)) (e : Ending) (w' : World) : Prop := Ext w w' ∧ ∃ A c, e = .returned (.slice A o.length c) ∧ Sl (slR u32R) w' All (.slice A o.length c) o

set_option maxRecDepth 100000 in
set_option maxHeartbeats 8000000 in
theorem order_any (w : World) (A : Option Addr) (n c : Nat) (l : List Fn18) (hl : Sl fnR w All (.slice A n c) l) (hn : n ≤ 1000) (hc : ∀ f ∈ l, f.calls.length ≤ 1000) (B : Nat → Nat → Bool) (hB : ∀ a b, B a b = true ↔ Reach l a b) :
    Calls Tryz.prog 11 #[.slice A n c] w (SlssPost w (orderOf (entriesOf l) B)) := by
  have hmm := @run_makeMap Tryz.prog
  have hlen := hl.len
  obtain ⟨i0, hi, hz0, hz1, hz2⟩ := info_parts info_w32
  have HI := hid hi; clear hi
  have HZ0 := hid hz0; clear hz0
  have HZ1 := hid hz1; clear hz1
  have HZ2 := hid hz2; clear hz2
  obtain ⟨j0, hi, hz0, hz1, hz2⟩ := info_parts info_sl
  have HJ := hid hi; clear hi
  have HJ0 := hid hz0; clear hz0
  have HJ1 := hid hz1; clear hz1
  have HJ2 := hid hz2; clear hz2
  have HP := hid (pre_reach l B hB)
  obtain ⟨E, hE⟩ : ∃ E, entriesOf l = E := ⟨_, rfl⟩
  have hE32 : ∀ x ∈ E, x < 4294967296 := fun x hx => by
    rw [← hE] at hx
    obtain ⟨f, hf, rfl⟩ := List.mem_map.1 (asc_mem.1 hx)
    obtain ⟨k, hk, rfl⟩ := List.getElem_of_mem hf
    obtain ⟨b, off, bA, bc, cA, cc, _, _, _, he, _⟩ := Sl_fn_at hl (List.getElem?_eq_getElem hk)
    exact he
  obtain ⟨O, hO⟩ : ∃ O, orderOf E B = O := ⟨_, rfl⟩
  rw [hE] at HP ⊢
  rw [hO]
  obtain ⟨F, hF⟩ : ∃ F, firsts l = F := ⟨_, rfl⟩
  have hFl : F.length ≤ 1000 := by have := firsts_len l; rw [hF] at this; omega
  have hFE : asc (F.map (·.entry)) = E := by rw [← hF, ← hE]; exact firsts_entries
  have hFN : (F.map (·.entry)).Nodup := by rw [← hF]; exact firsts_nodup l
  have HS := hid hl; clear hl
  have HC := hid hc; clear hc
  have HB := hid hB; clear hB
  have HF := hid hF; clear hF
  have HE := hid hE; clear hE
  have HE32 := hid hE32; clear hE32
  have HO := hid hO; clear hO
  have HFE := hid hFE; clear hFE
  have HFN := hid hFN; clear hFN
  clear hlen
  have HX0 := hid ((Ext.refl w).alloc (.map #[] 0))
  go_enter Tryz.func11, Tryz.ntmps11
  go_wp2_with fail
  refine (first_any _ A n c l (HS.out.ext HX0.out) (by omega)).mono ?_
  rintro e w2 ⟨hx2, A2, c2, rfl, hs2⟩
  rw [HF.out] at hs2 ⊢
  have HX2 := hid (HX0.out.trans hx2)
  have HS2 := hid hs2
  have hc2 := hs2.cap
  have hc21 := hc2.1
  have hc22 := hc2.2
  have hm2 := (MapG.made (u32K Tryz.underlying38) w).ext hx2
  have HM2 := hid hm2
  have hlt2 := hm2.lt
  clear hx2 hs2 hc2 HX0 hm2
  obtain ⟨N, hN⟩ : ∃ N, F.length = N := ⟨_, rfl⟩
  rw [hN] at HS2 hc21 hFl ⊢
  have HN := hid hN; clear hN
  obtain ⟨L, hL⟩ : ∃ L, w.heap.size = L := ⟨_, rfl⟩
  rw [hL] at HM2 hlt2 ⊢
  have HL := hid hL; clear hL
  go_wp2
  go_loopw [3, 21] (fun v i wr => ∃ (k : Nat) (A' : Option Addr) (c' : Nat) (M : List Nat) (q : Nat) (f : Nat → Option Value), k ≤ N ∧ i = .int .i64 k ∧ v = .slice A' M.length c' ∧ Hid (OwnS u32R wr w2.heap.size 38 All (.slice A' M.length c') M) ∧ Hid (Ext w wr) ∧
    Hid (M = (F.take k).map (·.entry)) ∧ Hid (M.length = k) ∧ Hid (Sl fnR wr (fun b => b < w2.heap.size) (.slice A2 N c2) F) ∧ w2.heap.size ≤ wr.heap.size ∧ Hid (MapG (u32K Tryz.underlying38) wr L q f ∧ q ≤ k) ∧ Hid (Leads wr L B f M ∧ ∀ x, x ∉ M → f x = none)) (fun _ i _ => N - (intOf i).toNat)
  case atStart => exact ⟨0, none, 0, [], 0, fun _ => none, by omega, rfl, rfl, hid OwnS.nil, HX2, hid (by simp), hid (by simp), hid (HS2.out.mono fun b _ h => h.lt), Nat.le_refl _, hid ⟨HM2.out, Nat.le_refl _⟩, hid ⟨fun x hx => by simp at hx, fun _ _ => rfl⟩⟩
  case round =>
    obtain ⟨k, A', c', M, q, f, hk, rfl, rfl, hown, hx, hM, hMk, hS2, hw2, hmp, hld⟩ := hrel
    by_cases h1 : k < N
    · obtain ⟨g, hg⟩ : ∃ g, F[k]? = some g := ⟨_, List.getElem?_eq_getElem (by have := HN.out; omega)⟩
      obtain ⟨b, off, bA, bc, cA, cc, rfl, -, hcl, hel, hnm, c0, c1, d2, c3, c4⟩ := Sl_fn_at hS2.out hg
      have HGK := hid hg; clear hg
      obtain ⟨W0, hW0⟩ : ∃ W0, wr.alloc (Obj.cells #[.int .u32 g.entry, .string g.name, .slice bA g.blocks.length bc, .slice cA g.calls.length cc, .bool g.leaf] 40) = W0 := ⟨_, rfl⟩
      have hE : Ext wr W0 := by rw [← hW0]; exact (Ext.refl wr).alloc _
      have q0 : W0.cell? ⟨wr.heap.size, 0, none⟩ = some (.int .u32 g.entry) := by rw [← hW0]; simp
      have hsz : W0.heap.size = wr.heap.size + 1 := by rw [← hW0]; simp
      have HE0 := hid hE; clear hE
      have HSZ := hid hsz; clear hsz
      have HO0 := hid (hown.out.ext HE0.out)
      have hne : w2.heap.size ≤ W0.heap.size := by have := HSZ.out; omega
      have HNE := hid hne
      clear hcl hnm hne
      go_wp2_with (first
        | (at_builtin; refine wpList_app1s rfl (.tmp 25) (.tmp 28) 23 rfl w2.heap.size 38 i0 _ 1 4 Tryz.underlying23 HI.out HZ0.out HZ1.out HZ2.out rfl u32R rfl (.slice A' M.length c') M rfl HO0.out W0.heap.size rfl g.entry rfl ⟨rfl, hel⟩ (by have := hMk.out; omega) (by have := hMk.out; omega) (by exact HNE.out) ?_; intro A5 c5 w5 hown5 hg5; have HO5 := hid hown5; have HG5 := hid (((Ext.refl W0).alloc (.cells #[.int .u32 g.entry] 38)).grownBy (Value.slice A' M.length c').ownBlock |>.andThen hg5 (fun j hj => .inr hj)); clear hown5 hg5)
        | fail)
      have HX5 := hid ((hx.out.trans HE0.out).grown HG5.out (fun j hj => by have := HO0.out.block j hj; have := HL.out; omega))
      have HM5 := hid ((hmp.out.1.ext HE0.out).kept HG5.out (fun e => by have := HO0.out.block L e.symm; omega))
      have HLD5 := hid ((hld.out.1.ext HE0.out).kept HG5.out (fun m hm => .inl (own_cells HO0.out hm.symm)))
      have HS5 := hid ((hS2.out.ext HE0.out).keep (fun b hb hc => HG5.out.block b hc.lt fun e => by have := HO0.out.block b e.symm; omega))
      have q5 : w5.cell? ⟨wr.heap.size, 0, none⟩ = some (.int .u32 g.entry) := by
        refine (World.cell?_of_block (HG5.out.block wr.heap.size (by have := HSZ.out; omega) fun e => ?_)).trans q0
        have := hown.out.block _ e.symm
        omega
      have hsz5 : wr.heap.size ≤ w5.heap.size := by have := HG5.out.size; have := HE0.out.size; omega
      have HSZ5 := hid hsz5
      have Q5 := hid q5
      have hge : g.entry ∉ M := by
        intro hgm
        rw [hM.out] at hgm
        obtain ⟨g', hg', he⟩ := List.mem_map.1 hgm
        obtain ⟨i, hi, rfl⟩ := List.getElem_of_mem hg'
        simp at hi
        rw [List.getElem_take] at he
        have h3 := (List.pairwise_iff_getElem.1 HFN.out) i k (by simp; omega) (by have := HN.out; simp; omega) (by omega)
        simp at h3
        have h4 := List.getElem?_eq_some_iff.1 HGK.out
        obtain ⟨_, h4⟩ := h4
        rw [h4] at h3
        exact h3 he
      have HGE := hid hge; clear hge
      have HMK := hid (show M.length = k from hMk.out)
      clear hW0 q0 c0 c1 d2 c3 c4 hsz5
      refine wp_region_split 7 (by kernel_rfl) rfl rfl (by kernel_rfl) (fun w' => w'.cell? ⟨wr.heap.size, 0, none⟩ = some (.int .u32 g.entry)) q5 (fun hSR0 => ?_)
      refine wpAnyH_takeL (i := 0) (v := ?Rv0) rfl (by kernel_rfl) (by kernel_rfl) (by kernel_rfl) (fun _ _ _ h => h) (Or.inl ⟨by rfl, ?Ry0⟩) (by assumption) ?Rr0
      case Ry0 => first | (intro w hSw; (try dsimp only at hSw); go_simp; done) | (intro w hSw; (try dsimp only at hSw); go_simp; with_reducible rfl)
      case' Rr0 => try simp only [Act.put, List.setIfInBounds_toArray, List.set_cons_zero, List.set_cons_succ]
      refine wpAnyH_takeL (i := 1) (v := ?Rv1) rfl (by kernel_rfl) (by kernel_rfl) (by kernel_rfl) (fun _ _ _ h => h) (Or.inl ⟨by rfl, ?Ry1⟩) (by assumption) ?Rr1
      case Ry1 => first | (intro w hSw; (try dsimp only at hSw); go_simp; done) | (intro w hSw; (try dsimp only at hSw); go_simp; with_reducible rfl)
      case' Rr1 => try simp only [Act.put, List.setIfInBounds_toArray, List.set_cons_zero, List.set_cons_succ]
      refine wpAnyH_takeL (i := 2) (v := ?Rv2) rfl (by kernel_rfl) (by kernel_rfl) (by kernel_rfl) (fun _ _ _ h => h) (Or.inl ⟨by rfl, ?Ry2⟩) (by assumption) ?Rr2
      case Ry2 => first | (intro w hSw; (try dsimp only at hSw); go_simp; done) | (intro w hSw; (try dsimp only at hSw); go_simp; with_reducible rfl)
      case' Rr2 => try simp only [Act.put, List.setIfInBounds_toArray, List.set_cons_zero, List.set_cons_succ]
      refine wpAnyH_takeL (i := 3) (v := ?Rv3) rfl (by kernel_rfl) (by kernel_rfl) (by kernel_rfl) (fun _ _ _ h => h) (Or.inl ⟨by rfl, ?Ry3⟩) (by assumption) ?Rr3
      case Ry3 => first | (intro w hSw; (try dsimp only at hSw); go_simp; done) | (intro w hSw; (try dsimp only at hSw); go_simp; with_reducible rfl)
      case' Rr3 => try simp only [Act.put, List.setIfInBounds_toArray, List.set_cons_zero, List.set_cons_succ]
      refine wpAnyH_takeL (i := 4) (v := ?Rv4) rfl (by kernel_rfl) (by kernel_rfl) (by kernel_rfl) (fun _ _ _ h => h) (Or.inl ⟨by rfl, ?Ry4⟩) (by assumption) ?Rr4
      case Ry4 => first | (intro w hSw; (try dsimp only at hSw); go_simp; done) | (intro w hSw; (try dsimp only at hSw); go_simp; with_reducible rfl)
      case' Rr4 => try simp only [Act.put, List.setIfInBounds_toArray, List.set_cons_zero, List.set_cons_succ]
      refine wpAnyH_takeL (i := 5) (v := ?Rv5) rfl (by kernel_rfl) (by kernel_rfl) (by kernel_rfl) (fun _ _ _ h => h) (Or.inl ⟨by rfl, ?Ry5⟩) (by assumption) ?Rr5
      case Ry5 => first | (intro w hSw; (try dsimp only at hSw); go_simp; done) | (intro w hSw; (try dsimp only at hSw); go_simp; with_reducible rfl)
      case' Rr5 => try simp only [Act.put, List.setIfInBounds_toArray, List.set_cons_zero, List.set_cons_succ]
      refine wpAnyH_ready (rs := [6]) (by kernel_rfl) (by simp) ?_
      refine AllReadyH.consL rfl (fun K hK => ?_) AllReadyH.nil
      go_simp
      go_at_call 24
      refine (reach_any _ A n c l (HS.out.ext (HX5.out.trans ((Ext.refl _).drew))) hn HC.out g.entry hel).mono ?_
      rintro e w6 ⟨hx6, m, qm, S, rfl, hm1, hm2, hmm6, hmS⟩
      have HX6 := hid hx6.drew_left
      have HM6 := hid hmm6
      have HMS := hid hmS
      have hml : w5.heap.size ≤ m := hm1
      clear hx6 hmm6 hmS
      refine hK.out _ _ (HX6.out.cell q5) (fun hSR1 => ?_)
      clear hK K
      try simp only [Act.put, List.setIfInBounds_toArray, List.set_cons_zero, List.set_cons_succ]
      refine wpAnyH_done (by kernel_rfl) ?_ _
      change wpList _ _ _ _ _ _
      have hmL : m ≠ L := by have := HM5.out.lt; omega
      have hSB : ∀ y, S y = B g.entry y := fun y => by
        rw [Bool.eq_iff_iff, HMS.out y, HB.out g.entry y]
      have HM6L := hid (HM5.out.ext HX6.out)
      have HL6 := hid ((HLD5.out.ext HX6.out).put HGE.out hmL HM6.out hSB)
      have hqk := hmp.out.2
      clear hm1 hm2 hml
      go_wp2_with (first
        | (at_mapUpdate; refine wpList_put _ rfl (.tmp 30) (.tmp 32) (.tmp 36) 63 rfl 65 Tryz.underlying63 (u32K Tryz.underlying38) L q f rfl HM6L.out (by unfold maxLen; omega) g.entry rfl hel (.map (some m)) rfl ?_; intro w7 hm7 hg7; have HM7 := hid hm7; have HG7 := hid hg7; clear hm7 hg7)
        | fail)
      first
        | go_roundw
        | refine ⟨?rel, ?measure⟩
      case rel =>
        have hLw : w.heap.size ≤ L := by have := HL.out; omega
        refine ⟨k + 1, A5, c5, M ++ [g.entry], q + 1, _, by omega, by go_num, by simp, hid ?_, hid ((HX5.out.trans HX6.out).grown HG7.out fun j hj => by cases hj; exact hLw), hid ?_, hid (by have := HMK.out; simp; omega), hid (HM6L.out.sl HG7.out (HS5.out.ext HX6.out)), ?_, hid ⟨HM7.out, by omega⟩, hid ⟨HL6.out.kept HG7.out fun m hm => .inr (by injection hm), fun x hx => ?_⟩⟩
        · have := own_map (HO5.out.ext HX6.out) HM6L.out HG7.out
          simpa using this
        · rw [take_snoc' HGK.out, List.map_append, ← hM.out]
          rfl
        · have := HG7.out.size
          have := HX6.out.size
          have := HSZ5.out
          omega
        · have h1 : ¬ x = g.entry := fun e => hx (by simp [e])
          have h2 : x ∉ M := fun e => hx (by simp [e])
          simp only [if_neg h1]
          exact hld.out.2 x h2
      case measure => simp [intOf]; omega
    · obtain rfl : N = k := by omega
      have e1 : F.take N = F := List.take_of_length_le (by have := HN.out; omega)
      have hMF := hM.out
      rw [e1] at hMF
      have hMn : M.Nodup := by rw [hMF]; exact HFN.out
      have hsE : sorted32 M = E := by rw [sorted_nodup hMn, hMF]; exact HFE.out
      have hEl : M.length = E.length := by rw [← hsE, sorted32_length]
      have HSE := hid hsE
      have HMM := hid hMk.out
      have HEL := hid hEl
      clear e1 hMF hMn hsE hEl
      have hlN : M.length ≤ 1000 := by have := HMM.out; omega
      go_wp2_with fail
      refine (sort_own hown.out (by omega)).mono ?_
      rintro e w3 ⟨rfl, ho3, hg3⟩
      rw [HSE.out] at ho3
      have hmE : ∀ x, x ∈ M ↔ x ∈ E := fun x => by rw [← HSE.out, sorted32_mem]
      have hl3 : Leads w3 L B f E := by
        have := hld.out.1.kept hg3 (fun m hm => .inl (own_cells hown.out hm.symm))
        exact fun x hx => this x ((hmE x).2 hx)
      have hm3 := hmp.out.1.kept hg3 (fun e => by have := hown.out.block L e.symm; omega)
      have HX3 := hid (hx.out.grown hg3 (fun j hj => by have := hown.out.block j hj; have := HL.out; omega))
      have HE3 := hid ho3.sl
      have HM3 := hid hm3
      have HL3 := hid hl3
      have HNE := hid (hld.out.2)
      rw [HEL.out] at HE3 ⊢
      have hEN : E.length ≤ 1000 := by have := HEL.out; omega
      have hcapE := HE3.out.cap
      have hce1 := hcapE.1
      have hce2 := hcapE.2
      clear hcapE hlN hl3 hm3 ho3 hg3 hmE hx hown hld hmp hS2 hM hMk
      obtain ⟨q0, hq0⟩ : ∃ q0, q ≤ q0 := ⟨q, Nat.le_refl _⟩
      have hm4 := (MapG.made (u32K Tryz.underlying38) w3).same (f' := setF (listedB [])) (fun x => rfl)
      obtain ⟨w4, hw4⟩ : ∃ w4, w3.alloc (.map #[] 0) = w4 := ⟨_, rfl⟩
      have hx4 : Ext w3 w4 := by rw [← hw4]; exact (Ext.refl _).alloc _
      rw [hw4] at hm4
      have how4 : OrdW w4 L w3.heap.size B E A' c' := ⟨(HE3.out.mono (fun b _ h => h.lt)).ext hx4, HM3.out.lt, q, f, HM3.out.ext hx4, HL3.out.ext hx4, fun x hx m hm => by
        obtain ⟨m', _, _, h1, _, h2, _⟩ := HL3.out x hx
        rw [hm] at h1
        cases h1
        exact h2.lt⟩
      obtain ⟨K, hK⟩ : ∃ K, w3.heap.size = K := ⟨_, rfl⟩
      rw [hK] at hm4 how4
      have HM4 := hid hm4
      have HOW4 := hid how4
      have HX4 := hid (HX3.out.trans hx4)
      have hwK : w.heap.size ≤ K := by rw [← hK]; exact HX3.out.size
      have hK4 : K + 1 ≤ w4.heap.size := by have := hm4.lt; omega
      have HWK := hid hwK
      have HK4 := hid hK4
      clear hm4 how4 hx4 HE3 HM3 HL3 HX3 HNE hwK hK4
      obtain ⟨NE, hNE⟩ : ∃ NE, E.length = NE := ⟨_, rfl⟩
      rw [hNE] at hEN hce1 ⊢
      have HNE := hid hNE
      clear hNE
      go_wp2
      clear hw4 hK
      go_loopw [8, 43] (fun v i wr => ∃ (t : Nat) (o : List (List Nat)) (A8 : Option Addr) (c8 ql : Nat), t ≤ NE ∧ i = .int .i64 t ∧ v = .slice A8 o.length c8 ∧ Hid (Ext w wr) ∧ Hid (OrdW wr L K B E A' c') ∧ Hid (MapG (u32K Tryz.underlying38) wr K ql (setF (listedB o)) ∧ ql ≤ o.flatten.length) ∧
        Hid (OwnS (slR u32R) wr (K + 1) 23 (fun b => b < wr.heap.size) (.slice A8 o.length c8) o ∧ K + 1 ≤ wr.heap.size) ∧ Hid (OrdG E B o ∧ orderN E B (NE - t) o = O ∧ o.length ≤ t)) (fun _ i _ => NE - (intOf i).toNat)
      case atStart => exact ⟨0, [], none, 0, 0, by omega, rfl, rfl, HX4, HOW4, hid ⟨HM4.out, by simp⟩, hid ⟨OwnS.nil, HK4.out⟩, hid ⟨OrdG.nil, by rw [← HO.out, orderOf, HNE.out]; rfl, by simp⟩⟩
      case round =>
        obtain ⟨t, o, A8, c8, ql, ht, rfl, rfl, HX5, HOW5, HM5, HO5, HG5⟩ := hrel
        by_cases h2 : t < NE
        · obtain ⟨wo, hwo⟩ : ∃ wo : World, wo = wr := ⟨_, rfl⟩
          subst hwo
          go_wp2
          go_loopw [8, 47] (fun v i wr => ∃ k : Nat, k ≤ NE ∧ i = .int .i64 k ∧ v = .slice A8 o.length c8 ∧ Hid (Ext wo wr) ∧ Hid (∀ (j a : Nat), j < k → E[j]? = some a → (!listedB o a && readyB E B o a) = false)) (fun _ i _ => NE - (intOf i).toNat)
          case atStart => exact ⟨0, by omega, rfl, rfl, hid (Ext.refl _), hid (fun j a hj => by omega)⟩
          case round =>
            obtain ⟨k, hk, rfl, rfl, HX6, HNO⟩ := hrel
            by_cases h3 : k < NE
            · obtain ⟨a, ha⟩ : ∃ a, E[k]? = some a := ⟨_, List.getElem?_eq_getElem (by have := HNE.out; omega)⟩
              have haE := List.mem_of_getElem? ha
              obtain ⟨b, off, rfl, ca, ha32⟩ := (HOW5.out.ext HX6.out).ent.num_at ha
              have HAK := hid ha; clear ha
              have HAE := hid haE; clear haE
              have HM6 := hid (HM5.out.1.ext HX6.out)
              cases hla : listedB o a with
              | true =>
                have HLA := hid hla; clear hla
                go_wp2_with (first
                  | ((with_reducible refine wpList_at_look 65 (.tmp 51) (.tmp 52) rfl rfl ?_); refine wpList_look _ rfl (.tmp 51) (.tmp 52) 65 rfl 4 Tryz.underlying65 (.bool false) (zero_bool _) (u32K Tryz.underlying38) K ql (setF (listedB o)) rfl HM6.out a rfl ha32 (.bool true) (setF_look _ a true HLA.out) ?_)
                  | fail)
                first
                  | go_roundw
                  | refine ⟨?rel, ?measure⟩
                case rel =>
                  refine ⟨k + 1, by omega, by go_num, rfl, HX6, hid fun j x hj hx => ?_⟩
                  rcases Nat.lt_or_ge j k with h | h
                  · exact HNO.out j x h hx
                  · obtain rfl : j = k := by omega
                    have := HAK.out.symm.trans hx
                    injection this with this
                    rw [← this, HLA.out]
                    rfl
                case measure => simp [intOf]; omega
              | false =>
                have HLA := hid hla; clear hla
                go_wp2_with (first
                  | ((with_reducible refine wpList_at_look 65 (.tmp 51) (.tmp 52) rfl rfl ?_); refine wpList_look _ rfl (.tmp 51) (.tmp 52) 65 rfl 4 Tryz.underlying65 (.bool false) (zero_bool _) (u32K Tryz.underlying38) K ql (setF (listedB o)) rfl HM6.out a rfl ha32 (.bool false) (setF_look _ a false HLA.out) ?_)
                  | fail)
                have HOW6 := hid (HOW5.out.ext HX6.out)
                have hK6 : K + 1 ≤ wr.heap.size := Nat.le_trans HO5.out.2 HX6.out.size
                have HK6 := hid hK6; clear hK6
                obtain ⟨wh, hwh⟩ : ∃ wh : World, wh = wr := ⟨_, rfl⟩
                subst hwh
                clear ca
                go_loopw [11, 12, 56] (fun v rv i wr => ∃ (j : Nat) (A11 : Option Addr) (c11 : Nat) (C : List Nat) (rd : Bool), j ≤ NE ∧ i = .int .i64 j ∧ v = .slice A11 C.length c11 ∧ rv = .bool rd ∧ Hid (Ext wh wr) ∧ Hid (OwnS u32R wr wh.heap.size 38 All (.slice A11 C.length c11) C ∧ C.length ≤ j) ∧
                  Hid (C = (E.take j).filter (fun b => B a b && B b a)) ∧ Hid (rd = (E.take j).all fun b => (B a b && B b a) || !(B a b) || listedB o b)) (fun _ _ i _ => NE - (intOf i).toNat)
                case atStart => exact ⟨0, none, 0, [], true, by omega, rfl, rfl, rfl, hid (Ext.refl _), hid ⟨OwnS.nil, by simp⟩, hid (by simp), hid (by simp)⟩
                case round =>
                  obtain ⟨j, A11, c11, C, rd, hj, rfl, rfl, rfl, HX7, HO7, HC7, HR7⟩ := hrel
                  by_cases h4 : j < NE
                  · obtain ⟨y, hy⟩ : ∃ y, E[j]? = some y := ⟨_, List.getElem?_eq_getElem (by have := HNE.out; omega)⟩
                    have hyE := List.mem_of_getElem? hy
                    obtain ⟨b2, off2, hA2, cy, hy32⟩ := (HOW6.out.ext HX7.out).ent.num_at hy
                    cases hA2
                    obtain ⟨qL, fL, hmL, hld, -⟩ := (HOW6.out.ext HX7.out).lead
                    obtain ⟨ma, qa, Sa, hfa, -, hma, hSa⟩ := hld a HAE.out
                    obtain ⟨mb, qb, Sb, hfb, -, hmb, hSb⟩ := hld y hyE
                    have HYK := hid hy; clear hy
                    have HML := hid hmL; clear hmL
                    have HFA := hid (show (fL a).getD (.map none) = .map (some ma) by rw [hfa]; rfl); clear hfa
                    have HFB := hid (show (fL y).getD (.map none) = .map (some mb) by rw [hfb]; rfl); clear hfb
                    have HMA := hid hma; clear hma
                    have HMB := hid hmb; clear hmb
                    have HM7 := hid (HM6.out.ext HX7.out)
                    have hCs : (E.take (j + 1)).filter (fun b => B a b && B b a) = C ++ (if B a y && B y a then [y] else []) := by
                      rw [take_snoc' HYK.out, List.filter_append, ← HC7.out, List.filter_cons]
                      cases (B a y && B y a) <;> rfl
                    have hRs : ((E.take (j + 1)).all fun b => (B a b && B b a) || !(B a b) || listedB o b) = (rd && ((B a y && B y a) || !(B a y) || listedB o y)) := by
                      rw [take_snoc' HYK.out, List.all_append, ← HR7.out]
                      simp
                    have HSA := hid (hSa y); clear hSa
                    have HSB := hid (hSb a); clear hSb
                    have HCS := hid hCs; clear hCs
                    have HRS := hid hRs; clear hRs
                    have HO7' := hid HO7.out.1
                    have hCj := HO7.out.2
                    clear hld hyE
                    obtain ⟨x1, hx1⟩ : ∃ x1, B a y = x1 := ⟨_, rfl⟩
                    obtain ⟨x2, hx2⟩ : ∃ x2, B y a = x2 := ⟨_, rfl⟩
                    obtain ⟨x3, hx3⟩ : ∃ x3, listedB o y = x3 := ⟨_, rfl⟩
                    rw [hx1, hx2] at HCS
                    rw [hx1, hx2, hx3] at HRS
                    rw [hx1] at HSA
                    rw [hx2] at HSB
                    have HX3 := hid hx3
                    clear hx1 hx2 hx3
                    cases x1 with
                    | false =>
                      go_wp2_with (first
                        | ((with_reducible refine wpList_at_look 63 (.tmp 61) (.tmp 62) rfl rfl ?_); refine wpList_look _ rfl (.tmp 61) (.tmp 62) 63 rfl 65 Tryz.underlying63 (.map none) (zero_mapB _) (u32K Tryz.underlying38) L qL fL rfl HML.out a rfl ha32 _ HFA.out ?_)
                        | ((with_reducible refine wpList_at_look 65 (.tmp 63) (.tmp 64) rfl rfl ?_); refine wpList_look _ rfl (.tmp 63) (.tmp 64) 65 rfl 4 Tryz.underlying65 (.bool false) (zero_bool _) (u32K Tryz.underlying38) ma qa (setF Sa) rfl HMA.out y rfl hy32 (.bool false) (setF_look _ y false HSA.out) ?_)
                        | ((with_reducible refine wpList_at_look 63 (.tmp 78) (.tmp 79) rfl rfl ?_); refine wpList_look _ rfl (.tmp 78) (.tmp 79) 63 rfl 65 Tryz.underlying63 (.map none) (zero_mapB _) (u32K Tryz.underlying38) L qL fL rfl HML.out a rfl ha32 _ HFA.out ?_)
                        | ((with_reducible refine wpList_at_look 65 (.tmp 80) (.tmp 81) rfl rfl ?_); refine wpList_look _ rfl (.tmp 80) (.tmp 81) 65 rfl 4 Tryz.underlying65 (.bool false) (zero_bool _) (u32K Tryz.underlying38) ma qa (setF Sa) rfl HMA.out y rfl hy32 (.bool false) (setF_look _ y false HSA.out) ?_)
                        | fail)
                      first
                        | go_roundw
                        | refine ⟨?rel, ?measure⟩
                      case rel => exact ⟨j + 1, A11, c11, C, rd, by omega, by go_num, rfl, rfl, HX7, hid ⟨HO7'.out, by omega⟩, hid (by rw [HCS.out]; simp), hid (by rw [HRS.out]; simp)⟩
                      case measure => simp [intOf]; omega
                    | true =>
                      cases x2 with
                      | true =>
                        go_wp2_with (first
                          | ((with_reducible refine wpList_at_look 63 (.tmp 61) (.tmp 62) rfl rfl ?_); refine wpList_look _ rfl (.tmp 61) (.tmp 62) 63 rfl 65 Tryz.underlying63 (.map none) (zero_mapB _) (u32K Tryz.underlying38) L qL fL rfl HML.out a rfl ha32 _ HFA.out ?_)
                          | ((with_reducible refine wpList_at_look 65 (.tmp 63) (.tmp 64) rfl rfl ?_); refine wpList_look _ rfl (.tmp 63) (.tmp 64) 65 rfl 4 Tryz.underlying65 (.bool false) (zero_bool _) (u32K Tryz.underlying38) ma qa (setF Sa) rfl HMA.out y rfl hy32 (.bool true) (setF_look _ y true HSA.out) ?_)
                          | ((with_reducible refine wpList_at_lookW 63 (.tmp 67) (.tmp 68) rfl ?_); refine wpList_lookW _ (by rfl) (.tmp 67) (.tmp 68) 63 rfl 65 Tryz.underlying63 (.map none) (zero_mapB _) (u32K Tryz.underlying38) L qL fL rfl HML.out y rfl hy32 _ HFB.out ?_)
                          | ((with_reducible refine wpList_at_lookW 65 (.tmp 69) (.tmp 70) rfl ?_); refine wpList_lookW _ (by rfl) (.tmp 69) (.tmp 70) 65 rfl 4 Tryz.underlying65 (.bool false) (zero_bool _) (u32K Tryz.underlying38) mb qb (setF Sb) rfl HMB.out a rfl ha32 (.bool true) (setF_look _ a true HSB.out) ?_)
                          | (at_builtin; refine wpList_app1s rfl (.tmp 73) (.tmp 75) 23 rfl wh.heap.size 38 i0 _ 1 4 Tryz.underlying23 HI.out HZ0.out HZ1.out HZ2.out rfl u32R rfl (.slice A11 C.length c11) C rfl HO7'.out wr.heap.size rfl y rfl ⟨rfl, hy32⟩ (by omega) (by omega) (by exact HX7.out.size) ?_; intro A12 c12 w8 hown8 hg8; have HO8 := hid hown8; have HX8 := hid ((HX7.out.alloc _).grown hg8 (fun k hk => (HO7'.out.block _ hk).1)); clear hown8 hg8)
                          | fail)
                        first
                          | go_roundw
                          | refine ⟨?rel, ?measure⟩
                        case rel => exact ⟨j + 1, A12, c12, C ++ [y], rd, by omega, by go_num, by simp, rfl, HX8, hid ⟨by simpa using HO8.out, by simp; omega⟩, hid (by rw [HCS.out]; simp), hid (by rw [HRS.out]; simp)⟩
                        case measure => simp [intOf]; omega
                      | false =>
                        cases x3 with
                        | true =>
                          go_wp2_with (first
                          | ((with_reducible refine wpList_at_look 63 (.tmp 61) (.tmp 62) rfl rfl ?_); refine wpList_look _ rfl (.tmp 61) (.tmp 62) 63 rfl 65 Tryz.underlying63 (.map none) (zero_mapB _) (u32K Tryz.underlying38) L qL fL rfl HML.out a rfl ha32 _ HFA.out ?_)
                          | ((with_reducible refine wpList_at_look 65 (.tmp 63) (.tmp 64) rfl rfl ?_); refine wpList_look _ rfl (.tmp 63) (.tmp 64) 65 rfl 4 Tryz.underlying65 (.bool false) (zero_bool _) (u32K Tryz.underlying38) ma qa (setF Sa) rfl HMA.out y rfl hy32 (.bool true) (setF_look _ y true HSA.out) ?_)
                          | ((with_reducible refine wpList_at_lookW 63 (.tmp 67) (.tmp 68) rfl ?_); refine wpList_lookW _ (by rfl) (.tmp 67) (.tmp 68) 63 rfl 65 Tryz.underlying63 (.map none) (zero_mapB _) (u32K Tryz.underlying38) L qL fL rfl HML.out y rfl hy32 _ HFB.out ?_)
                          | ((with_reducible refine wpList_at_lookW 65 (.tmp 69) (.tmp 70) rfl ?_); refine wpList_lookW _ (by rfl) (.tmp 69) (.tmp 70) 65 rfl 4 Tryz.underlying65 (.bool false) (zero_bool _) (u32K Tryz.underlying38) mb qb (setF Sb) rfl HMB.out a rfl ha32 (.bool false) (setF_look _ a false HSB.out) ?_)
                          | ((with_reducible refine wpList_at_look 63 (.tmp 78) (.tmp 79) rfl rfl ?_); refine wpList_look _ rfl (.tmp 78) (.tmp 79) 63 rfl 65 Tryz.underlying63 (.map none) (zero_mapB _) (u32K Tryz.underlying38) L qL fL rfl HML.out a rfl ha32 _ HFA.out ?_)
                          | ((with_reducible refine wpList_at_look 65 (.tmp 80) (.tmp 81) rfl rfl ?_); refine wpList_look _ rfl (.tmp 80) (.tmp 81) 65 rfl 4 Tryz.underlying65 (.bool false) (zero_bool _) (u32K Tryz.underlying38) ma qa (setF Sa) rfl HMA.out y rfl hy32 (.bool true) (setF_look _ y true HSA.out) ?_)
                          | ((with_reducible refine wpList_at_lookW 65 (.tmp 84) (.tmp 85) rfl ?_); refine wpList_lookW _ (by rfl) (.tmp 84) (.tmp 85) 65 rfl 4 Tryz.underlying65 (.bool false) (zero_bool _) (u32K Tryz.underlying38) K ql (setF (listedB o)) rfl HM7.out y rfl hy32 (.bool true) (setF_look _ y true HX3.out) ?_)
                          | fail)
                          first
                            | go_roundw
                            | refine ⟨?rel, ?measure⟩
                          case rel => exact ⟨j + 1, A11, c11, C, rd, by omega, by go_num, rfl, rfl, HX7, hid ⟨HO7'.out, by omega⟩, hid (by rw [HCS.out]; simp), hid (by rw [HRS.out]; simp)⟩
                          case measure => simp [intOf]; omega
                        | false =>
                          go_wp2_with (first
                          | ((with_reducible refine wpList_at_look 63 (.tmp 61) (.tmp 62) rfl rfl ?_); refine wpList_look _ rfl (.tmp 61) (.tmp 62) 63 rfl 65 Tryz.underlying63 (.map none) (zero_mapB _) (u32K Tryz.underlying38) L qL fL rfl HML.out a rfl ha32 _ HFA.out ?_)
                          | ((with_reducible refine wpList_at_look 65 (.tmp 63) (.tmp 64) rfl rfl ?_); refine wpList_look _ rfl (.tmp 63) (.tmp 64) 65 rfl 4 Tryz.underlying65 (.bool false) (zero_bool _) (u32K Tryz.underlying38) ma qa (setF Sa) rfl HMA.out y rfl hy32 (.bool true) (setF_look _ y true HSA.out) ?_)
                          | ((with_reducible refine wpList_at_lookW 63 (.tmp 67) (.tmp 68) rfl ?_); refine wpList_lookW _ (by rfl) (.tmp 67) (.tmp 68) 63 rfl 65 Tryz.underlying63 (.map none) (zero_mapB _) (u32K Tryz.underlying38) L qL fL rfl HML.out y rfl hy32 _ HFB.out ?_)
                          | ((with_reducible refine wpList_at_lookW 65 (.tmp 69) (.tmp 70) rfl ?_); refine wpList_lookW _ (by rfl) (.tmp 69) (.tmp 70) 65 rfl 4 Tryz.underlying65 (.bool false) (zero_bool _) (u32K Tryz.underlying38) mb qb (setF Sb) rfl HMB.out a rfl ha32 (.bool false) (setF_look _ a false HSB.out) ?_)
                          | ((with_reducible refine wpList_at_look 63 (.tmp 78) (.tmp 79) rfl rfl ?_); refine wpList_look _ rfl (.tmp 78) (.tmp 79) 63 rfl 65 Tryz.underlying63 (.map none) (zero_mapB _) (u32K Tryz.underlying38) L qL fL rfl HML.out a rfl ha32 _ HFA.out ?_)
                          | ((with_reducible refine wpList_at_look 65 (.tmp 80) (.tmp 81) rfl rfl ?_); refine wpList_look _ rfl (.tmp 80) (.tmp 81) 65 rfl 4 Tryz.underlying65 (.bool false) (zero_bool _) (u32K Tryz.underlying38) ma qa (setF Sa) rfl HMA.out y rfl hy32 (.bool true) (setF_look _ y true HSA.out) ?_)
                          | ((with_reducible refine wpList_at_lookW 65 (.tmp 84) (.tmp 85) rfl ?_); refine wpList_lookW _ (by rfl) (.tmp 84) (.tmp 85) 65 rfl 4 Tryz.underlying65 (.bool false) (zero_bool _) (u32K Tryz.underlying38) K ql (setF (listedB o)) rfl HM7.out y rfl hy32 (.bool false) (setF_look _ y false HX3.out) ?_)
                          | fail)
                          first
                            | go_roundw
                            | refine ⟨?rel, ?measure⟩
                          case rel => exact ⟨j + 1, A11, c11, C, false, by omega, by go_num, rfl, rfl, HX7, hid ⟨HO7'.out, by omega⟩, hid (by rw [HCS.out]; simp), hid (by rw [HRS.out]; simp)⟩
                          case measure => simp [intOf]; omega
                  · obtain rfl : NE = j := by omega
                    have e1 : E.take NE = E := List.take_of_length_le (by have := HNE.out; omega)
                    have hC := HC7.out
                    have hR := HR7.out
                    rw [e1] at hC hR
                    have HCO := hid (show C = compOf E B a from hC)
                    have HRO := hid (show rd = readyB E B o a from hR)
                    have hCl := HO7.out.2
                    have HO7' := hid HO7.out.1
                    clear e1 hC hR
                    cases rd with
                    | false =>
                      go_wp2
                      first
                        | go_roundw
                        | refine ⟨?rel, ?measure⟩
                      case rel =>
                        refine ⟨k + 1, by omega, by go_num, rfl, hid (HX6.out.trans HX7.out), hid fun j' x hj' hx => ?_⟩
                        rcases Nat.lt_or_ge j' k with h | h
                        · exact HNO.out j' x h hx
                        · obtain rfl : j' = k := by omega
                          have := HAK.out.symm.trans hx
                          injection this with this
                          rw [← this, ← HRO.out]
                          simp
                      case measure => simp [intOf]; omega
                    | true =>
                      have hst : stepO E B o = some a := by
                        rw [stepO, List.find?_eq_some_iff_getElem]
                        obtain ⟨hkl, hka⟩ := List.getElem?_eq_some_iff.1 HAK.out
                        refine ⟨by rw [HLA.out, ← HRO.out]; rfl, k, hkl, hka, fun j' hj' => ?_⟩
                        have := HNO.out j' _ hj' (List.getElem?_eq_getElem (by omega))
                        simp [this]
                      have HST := hid hst; clear hst
                      have hol := HG5.out.2.2
                      have HO8 := hid (own_T (T' := fun b => b < wr.heap.size) ((HO5.out.1.ext HX6.out).ext HX7.out) (fun b hb hc => hc.lt))
                      have HSC := hid (HO7'.out.num_sl (S := fun b => wh.heap.size ≤ b) (fun k hk => hk))
                      have hKr := Nat.le_trans HK6.out HX7.out.size
                      have HOB := hid (fun q hq => (HO5.out.1.ext HX6.out).block q hq)
                      go_wp2_with (first
                        | (at_builtin; refine wpList_app1s rfl (.tmp 91) (.tmp 93) 44 rfl (K + 1) 23 j0 _ 1 24 Tryz.underlying44 HJ.out HJ0.out HJ1.out HJ2.out rfl (slR u32R) rfl (.slice A8 o.length c8) o rfl HO8.out wr.heap.size rfl C rfl ⟨_, rfl, HSC.out.mono (fun b hb hc => ⟨hc.lt, fun e => by have := HOB.out b e.symm; omega⟩)⟩ (by omega) (by omega) hKr ?_; intro A9 c9 w8 hown8 hg8; have HO9 := hid hown8; have HG9 := hid (((Ext.refl wr).alloc (Obj.cells #[.slice A11 C.length c11] 23)).grownBy (Value.slice A8 o.length c8).ownBlock |>.andThen hg8 (fun j hj => .inr hj)); clear hown8 hg8)
                        | fail)
                      have hM8 := (HM6.out.ext HX7.out).kept HG9.out (fun e => by have := HO8.out.block K e.symm; omega)
                      have hOW8 := (HOW6.out.ext HX7.out).grown HG9.out (fun g hg => by have := HO8.out.block g hg; omega)
                      have hS8 := HSC.out.keep (w' := w8) (fun b hb hc => HG9.out.block b hc.lt fun e => by have := HOB.out b e.symm; omega)
                      have hX8 := (HX5.out.trans (HX6.out.trans HX7.out)).grown HG9.out (fun g hg => by have := HO8.out.block g hg; have := HWK.out; omega)
                      have hK8 : K + 1 ≤ w8.heap.size := Nat.le_trans hKr HG9.out.size
                      have hwr8 := HG9.out.size
                      have HWR8 := hid hwr8
                      have HM8 := hid hM8
                      have HOW8 := hid hOW8
                      have HS8 := hid hS8
                      have HX8 := hid hX8
                      have HK8 := hid hK8
                      have hql := HM5.out.2
                      have hfl := nodup_sub_len (HG5.out.1.flat HP.out).1 (HG5.out.1.flat HP.out).2
                      have hqN : ql ≤ NE := by have := HNE.out; omega
                      have hC32 : ∀ x ∈ C, x < 4294967296 := HO7'.out.num_lt
                      have HC32 := hid hC32
                      obtain ⟨CL, hCL⟩ : ∃ CL, C.length = CL := ⟨_, rfl⟩
                      have HCL := hid hCL
                      have hcc := HS8.out.cap
                      have hcc1 := hcc.1
                      have hcc2 := hcc.2
                      rw [hCL] at HS8 hcc1 hCl ⊢
                      clear hM8 hOW8 hS8 hX8 hK8 hKr hwr8 hfl hC32 hCL hcc hql
                      go_loopw [97] (fun i wr => ∃ (j q5 : Nat), j ≤ CL ∧ i = .int .i64 j ∧ Hid (w8.grownBy wr (some K)) ∧ Hid (MapG (u32K Tryz.underlying38) wr K q5 (setF fun x => listedB o x || (C.take j).contains x) ∧ q5 ≤ ql + j)) (fun i _ => CL - (intOf i).toNat)
                      case atStart => exact ⟨0, ql, by omega, rfl, hid (World.grownBy.refl _ _), hid ⟨HM8.out.same fun x => by simp [setF], by omega⟩⟩
                      case round =>
                        obtain ⟨j, q5, hj, rfl, HG10, HM10⟩ := hrel
                        by_cases h5 : j < CL
                        · obtain ⟨x, hx⟩ : ∃ x, C[j]? = some x := ⟨_, List.getElem?_eq_getElem (by have := HCL.out; omega)⟩
                          have hsx := HM8.out.sl HG10.out HS8.out
                          obtain ⟨b3, off3, rfl, cx, hx32⟩ := hsx.num_at hx
                          have HXJ := hid hx; clear hx hsx
                          have hq5 := HM10.out.2
                          have HM10' := hid HM10.out.1
                          go_wp2_with (first
                            | (at_mapUpdate; refine wpList_put _ rfl (.tmp 101) (.tmp 102) (.const (.bool true)) 65 rfl 4 Tryz.underlying65 (u32K Tryz.underlying38) K q5 _ rfl HM10'.out (by unfold maxLen; omega) x rfl hx32 (.bool true) rfl ?_; intro w11 hm11 hg11; have HM11 := hid hm11; have HG11 := hid hg11; clear hm11 hg11)
                            | fail)
                          first
                            | go_roundw
                            | refine ⟨?rel, ?measure⟩
                          case rel =>
                            refine ⟨j + 1, q5 + 1, by omega, by go_num, hid (grownBy_same HG10.out HG11.out), hid ⟨HM11.out.same fun y => ?_, by omega⟩⟩
                            rw [take_snoc' HXJ.out]
                            unfold setF
                            by_cases hyx : y = x
                            · subst hyx
                              simp
                            · simp [hyx]
                          case measure => simp [intOf]; omega
                        · obtain rfl : CL = j := by omega
                          have e1 : C.take CL = C := List.take_of_length_le (by have := HCL.out; omega)
                          have hM12 := HM10.out.1
                          rw [e1] at hM12
                          have HM12 := hid (hM12.same (f' := setF (listedB (o ++ [C]))) fun x => by unfold setF; rw [listed_snoc])
                          have hq5 := HM10.out.2
                          have hon : orderN E B (NE - (t + 1)) (o ++ [C]) = O := by
                            have h6 := HG5.out.2.1
                            rw [show NE - t = (NE - (t + 1)) + 1 by omega, orderN_some HST.out, ← HCO.out] at h6
                            exact h6
                          have hord := HG5.out.1.snoc HP.out HST.out
                          rw [← HCO.out] at hord
                          have HON := hid hon
                          have HORD := hid hord
                          clear e1 hM12 hon hord
                          go_wp2
                          first
                            | go_roundw
                            | refine ⟨?rel, ?measure⟩
                          case rel =>
                            refine ⟨t + 1, o ++ [C], A9, c9, q5, by omega, by go_num, by simp, hid (HX8.out.grown HG10.out (fun g hg => by cases hg; exact HWK.out)), hid (HOW8.out.grown HG10.out (fun g hg => by cases hg; exact Nat.le_refl _)), hid ⟨HM12.out, ?_⟩, hid ⟨?_, Nat.le_trans HK8.out HG10.out.size⟩, hid ⟨HORD.out, HON.out, by simp; omega⟩⟩
                            · have := HM5.out.2
                              have := HCL.out
                              have e2 : (o ++ [C]).flatten.length = o.flatten.length + C.length := by simp [List.flatten_append]
                              rw [e2]
                              omega
                            · have h7 := own_map HO9.out HM8.out HG10.out
                              have h8 := own_T (T' := fun b => b < _) h7 (fun b hb hc => hc.lt)
                              simpa using h8
                          case measure => simp [intOf]; omega
            · obtain rfl : NE = k := by omega
              have hst : stepO E B o = none := by
                rw [stepO, List.find?_eq_none]
                intro x hx
                obtain ⟨j, hj, rfl⟩ := List.getElem_of_mem hx
                have := HNO.out j _ (by have := HNE.out; omega) (List.getElem?_eq_getElem hj)
                simp [this]
              have hon : orderN E B (NE - (t + 1)) o = O := by
                have := HG5.out.2.1
                rw [orderN_done hst] at this ⊢
                exact this
              have HON := hid hon
              clear hon hst
              go_wp2
              first
                | go_roundw
                | refine ⟨?rel, ?measure⟩
              case rel => exact ⟨t + 1, o, A8, c8, ql, by omega, by go_num, rfl, hid (HX5.out.trans HX6.out), hid (HOW5.out.ext HX6.out), hid ⟨HM5.out.1.ext HX6.out, HM5.out.2⟩, hid ⟨own_T (HO5.out.1.ext HX6.out) (fun b hb hc => hc.lt), Nat.le_trans HO5.out.2 HX6.out.size⟩, hid ⟨HG5.out.1, HON.out, by have := HG5.out.2.2; omega⟩⟩
              case measure => simp [intOf]; omega
        · obtain rfl : NE = t := by omega
          have hoO : o = O := by
            have := HG5.out.2.1
            rw [Nat.sub_self] at this
            exact this
          subst hoO
          go_wp2
          go_ret
          exact ⟨HX5.out, A8, c8, rfl, HO5.out.1.sl⟩
end Go.Proofs.YtnlmhnbogleijaaGreatDoor
