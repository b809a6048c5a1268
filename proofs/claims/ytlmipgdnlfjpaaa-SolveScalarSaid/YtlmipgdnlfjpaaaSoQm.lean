/- Merged by program from texts of my own. -/
import Derived.Test.YtlmipgdnlfjpaaaSoPm
import Derived.Test.YtlmipgdnlfjpaaaTycm
namespace Go.Deco
open Go Go.RowKit Go.Maps
set_option linter.unusedSimpArgs false
set_option linter.unusedVariables false
section
variable {P : Program} {k : TypeId} {κ : Type} {G : KeyG P k κ} {w w' : World} {b r n : Nat} {f : κ → Option Value}
theorem MapG.entryNew [DecidableEq κ] {t e : TypeId} (h : MapG G w b n f) (ht : P.underlying t = some (.map k e)) {z : Value} (hz : ∀ u : World, (zeroValue e).run P u = .ok z u) (hn : n < maxLen) {x : κ} (hx : G.ok x) (hf : f x = none) :
  ∃ (st : Nat) (w1 : World), (Instr.mapEntry t (.map (some b)) (G.val x)).run P w = .ok (.tuple #[z, goInt st]) w1 ∧ w.grownBy w1 (some b) ∧ w1.heap.size = w.heap.size ∧
   ∀ (w2 : World) (v : Value), w2.heap[b]? = w1.heap[b]? → ∃ w3, (Instr.entryStore t (.map (some b)) (goInt st) v).run P w2 = .ok () w3 ∧ MapG G w3 b (n + 1) (fun j => if j = x then some v else f j) ∧ w2.grownBy w3 (some b) ∧ w3.heap.size = w2.heap.size := by
 have hlt := h.lt
 have hput := fun v => h.put ht hn hx v
 obtain ⟨D, ⟨es, clock, hb, F, hs, hD⟩, hff⟩ := h
 have hkey := G.key hx
 have hsb : ∀ (u : World) (o : Obj), b < u.heap.size → u.grownBy (ChangeMaps.setBlock u b o) (some b) ∧ (ChangeMaps.setBlock u b o).heap.size = u.heap.size ∧ (ChangeMaps.setBlock u b o).heap[b]? = some o := fun u o hu => by
  refine ⟨⟨rfl, rfl, rfl, by simp [ChangeMaps.setBlock], fun i hi hne => ?_⟩, by simp [ChangeMaps.setBlock], by simp [ChangeMaps.setBlock, hu]⟩
  have : i ≠ b := fun e => hne (by rw [e])
  simp [ChangeMaps.setBlock, Array.getElem?_setIfInBounds, Ne.symm this]
 have hno : ∀ y ∈ es.toList, y.key ≠ G.val x := by
  rcases Maps.fit_look false G.law ht (hz w) hb F hkey with ⟨_, hno, _⟩ | ⟨e1, y, he1, hk1, _, hRv, hat, _⟩
  ·exact hno
  ·exfalso
   have hy : y.1 = .held e1.val := by
    simp [heldV] at hRv
    rw [← hRv]
   rw [hff x, hD, lookV, hat, hy] at hf
   cases hf
 have hfind : (Instr.findKey k (G.val x) es.toList).run P w = .ok none w := by
  rcases G.law.find w hkey es.toList F.keys with ⟨h1, _⟩ | ⟨j, e0, _, h2, h3⟩
  ·exact h1
  ·exact absurd h3 (hno e0 (List.mem_of_getElem? h2))
 obtain ⟨s1, s2, -⟩ := F.stamped
 have hrun : (Instr.mapEntry t (.map (some b)) (G.val x)).run P w = .ok (.tuple #[z, goInt clock]) (ChangeMaps.setBlock w b (.map (es.push ⟨G.val x, z, clock⟩) (clock + 1))) := by
  simp [Instr.mapEntry, run_underlying ht, MapKept.run_getObj_map hb, G.law.check w false hkey, hfind, hz, MapKept.run_setObj_map _ hb, Result.andThen, ChangeMaps.setBlock]
 refine ⟨clock, _, hrun, (hsb w _ hlt).1, (hsb w _ hlt).2.1, fun w2 v hw2 => ?_⟩
 rw [(hsb w _ hlt).2.2] at hw2
 have hlt2 : b < w2.heap.size := (Array.getElem?_eq_some_iff.1 hw2).1
 have hidx : (es.push ⟨G.val x, z, clock⟩).findIdx? (fun e => ((e.born : Nat) : Int) == ((clock : Nat) : Int)) = some es.size := by
  rw [WideElems.findIdx_arr]
  refine WideElems.findIdx_born (l := (es.push ⟨G.val x, z, clock⟩).toList) (j := es.size) (e0 := ⟨G.val x, z, clock⟩) ?_ (by simp)
  rw [Array.toList_push, List.map_append]
  refine List.nodup_append.2 ⟨s2, by simp, fun a ha c hc e1 => ?_⟩
  obtain ⟨y, hy, rfl⟩ := List.mem_map.1 ha
  have h3 := s1 y hy
  simp only [List.map_cons, List.map_nil, List.mem_singleton] at hc
  omega
 have hmod : (es.push ⟨G.val x, z, clock⟩).modify es.size (fun e => { e with val := v }) = es.push ⟨G.val x, v, clock⟩ := by
  apply Array.ext'
  rw [Array.toList_modify, Array.toList_push, Array.toList_push, ← Array.length_toList, WideElems.modify_last]
 have hst : (Instr.entryStore t (.map (some b)) (goInt clock) v).run P w2 = .ok () (ChangeMaps.setBlock w2 b (.map (es.push ⟨G.val x, v, clock⟩) (clock + 1))) := by
  simp [Instr.entryStore, MapKept.run_getObj_map hw2, asInt, asIntOf, goInt, hidx, hmod, MapKept.run_setObj_map _ hw2, Result.andThen, ChangeMaps.setBlock]
 have hup : (Instr.mapUpdate t (.map (some b)) (G.val x) v).run P w = .ok () (ChangeMaps.setBlock w b (.map (es.push ⟨G.val x, v, clock⟩) (clock + 1))) := by
  simp [Instr.mapUpdate, run_underlying ht, MapKept.run_getObj_map hb, G.law.check w false hkey, hfind, MapKept.run_setObj_map _ hb, Result.andThen, ChangeMaps.setBlock]
 obtain ⟨w4, h3, h4, _⟩ := hput v
 rw [hup] at h3
 cases h3
 refine ⟨_, hst, ?_, (hsb w2 _ hlt2).1, (hsb w2 _ hlt2).2.1⟩
 obtain ⟨D', ⟨es2, c2, hb2, r2⟩, hf2⟩ := h4
 refine ⟨D', ⟨es2, c2, ?_, r2⟩, hf2⟩
 rw [(hsb w _ hlt).2.2] at hb2
 rw [(hsb w2 _ hlt2).2.2]
 exact hb2
end
end Go.Deco
namespace Go.Proofs.Ytlmipgdnlfjpaaa
open Go.RowKit Go.Deco Go.Maps
set_option linter.unusedSimpArgs false
set_option linter.unusedVariables false
section
variable {ops : Array Oper} {rest : List Oper} {o : Oper} {a : Act} {K : Act → World → Prop} {Q : Exit → Act → World → Prop} {X : Prop} {W : World}
theorem step_entryStore (hgd : o.guard = none) (m s y : Operand) (t : TypeId) (ho : o.op = .entryStore t m s y) {W1 : World} (hrun : (Instr.entryStore t (a.eval m) (a.eval s) (a.eval y)).run Try.prog W = .ok () W1) (h : K (a.put o.dst undef) W1) :
  if Region.wanted o (yielded ops a.tmps) = true then Oper.wp Try.prog o a W K Q else X := by
 have hw : Region.wanted o (yielded ops a.tmps) = true := by simp [Region.wanted, hgd]
 rw [if_pos hw]
 unfold Oper.wp
 simp [execOp, ho, hrun, Result.andThen]
 exact h
end
theorem typ_look {w : World} {mb n : Nat} {f : Int → Option Value} (h : MapG (intK Try.underlying3) w mb n f) {q : Int} (hq : i64b q) : (Instr.lookup 63 (.map (some mb)) (.int .i64 q) true).run Try.prog w = .ok (.tuple #[(f q).getD (.agg #[.int .i64 0, .int .i64 0, .int .i64 0, .slice none 0 0, .slice none 0 0]), .bool (f q).isSome]) w := by
 obtain ⟨D, h1, h2⟩ := h
 have hrun := (ownsMap_look h1 (intK Try.underlying3).law Try.underlying63 (z := .agg #[.int .i64 0, .int .i64 0, .int .i64 0, .slice none 0 0, .slice none 0 0]) (Try.zeroValue37 w) ((intK Try.underlying3).key hq)).2
 rw [← h2] at hrun
 exact hrun
section
variable {d : Nat} {D : SvDat} {w0 W0 W W' : World} {vl : Value} {l : List Con} {n : Nat} {P0 P : List Nat} {v6 : Value} {scb N : Nat} {SC : List Ty} {T : Nat → Prop} {ft fc fr : Int → Option Value}
theorem PtS.putT (S : SvSt d D w0 W0 vl l n P0) (hN : 0 < n + l.length) (h : PtS d D W0 W vl l n P0 P v6 scb N SC T ft fc fr) {k : Nat} (hk : k < n) (hr : rootP P0 k = k) (hn : ft k = none) {v : Value} {t : Ty} {d' m : Nat} (hv : TyV d' W T v t) (hpt : PtrTy l m (k : Int) t) (hct : cntT t ≤ 256)
  (hm1 : MapG (intK Try.underlying3) W' D.b0 (cntD n ft + 1) (fun j => if j = (k : Int) then some v else ft j)) (hm2 : MapG (intK Try.underlying3) W' (D.b0 + 1) (cntD n fc + 1) (fun j => if j = (k : Int) then some (.int .i64 (cntT t)) else fc j)) (hc : Chg (fun b => b = D.b0 ∨ b = D.b0 + 1) W W') :
  PtS d D W0 W' vl l n P0 P v6 scb N SC T (fun j => if j = (k : Int) then some v else ft j) (fun j => if j = (k : Int) then some (.int .i64 (cntT t)) else fc j) fr := by
 have hbd := S.bounds hN
 have hsc := (h.place _ h.tscb).1
 refine ⟨h.now.far S hc (fun b hb => by rcases hb with hb | hb; exact .inr (.inl ⟨h.mx, hb⟩); exact .inr (.inr (.inl ⟨h.mx, hb⟩))), hc.own h.scal (fun b hb' e => by have e' : some scb = some b := hb'; injection e' with e'; omega) (fun b hb' e => by have := (h.place b hb').1; omega), by rw [cntD_put hk hn]; exact hm1, by rw [cntD_put hk (h.typn _ hn)]; exact hm2, hc.map h.rch (by omega), fun q u hq => ?_, fun q hq => ?_, fun q u hq => ?_, fun b hb => ⟨(h.place b hb).1, Nat.lt_of_lt_of_le (h.place b hb).2 hc.size⟩, h.tscb, h.mx⟩
 ·by_cases hq' : q = (k : Int)
  ·simp only [if_pos hq'] at hq ⊢
   injection hq with hq
   subst hq
   exact ⟨k, d', m, t, hq', hk, hr, hc.ty hv (fun b hb' e => by have := (h.place b hb').1; omega), hpt, rfl, hct⟩
  ·simp only [if_neg hq'] at hq ⊢
   obtain ⟨k', d', m, t, h1, h2, h3, h4, h5⟩ := h.typs q u hq
   exact ⟨k', d', m, t, h1, h2, h3, hc.ty h4 (fun b hb' e => by have := (h.place b hb').1; omega), h5⟩
 ·by_cases hq' : q = (k : Int)
  ·simp only [if_pos hq'] at hq
   cases hq
  ·simp only [if_neg hq'] at hq ⊢
   exact h.typn q hq
 ·obtain ⟨k', b', m, L, h1, h2, h3, h4, h5, h6, h7⟩ := h.rchs q u hq
  exact ⟨k', b', m, L, h1, h2, h3, h4, h5, hc.map h6 (by have := (h.place b' h5).1; omega), h7⟩
end
theorem PtrOk.mono {d : Nat} {D : SvDat} {W0 : World} {vl : Value} {l : List Con} {n : Nat} {P0 : List Nat} {v6 : Value} {scb N : Nat} {SC : List Ty} {M M' : Nat} (h : PtrOk d D W0 vl l n P0 v6 scb N SC M) (hM : M' ≤ M) : PtrOk d D W0 vl l n P0 v6 scb N SC M' :=
 fun q h1 h2 h3 h4 => h q h1 h2 h3 (Nat.lt_of_lt_of_le h4 hM)
section
variable {d : Nat} {D : SvDat} {w0 W0 W : World} {l : List Con} {n : Nat} {P0 P : List Nat} {v6 : Value} {scb : Nat} {SC : List Ty} {T : Nat → Prop} {ft fc fr : Int → Option Value}
set_option maxRecDepth 100000 in
set_option maxHeartbeats 16000000 in
theorem ptr_step {A : Option Addr} {m me : Nat} (S : SvSt d D w0 W0 (.slice A m me) l n P0) {TF : Nat → Ty} (hF : FlowOk l n P0 SC TF) (h : PtS d D W0 W (.slice A m me) l n P0 P v6 scb (n + l.length) SC T ft fc fr) {q : Nat} (hq : q < n) (hqq : rootP P0 q = q) (hp : IsPtr l (q : Int))
  (hP : PtrOk d D W0 (.slice A m me) l n P0 v6 scb (n + l.length) SC (mu l n (q : Int))) :
  Calls Try.prog 24 #[.pointer (some ⟨D.b0 + 5, 0, none⟩), .int .i64 q] W (PtrPost d D W0 W (.slice A m me) l n P0 v6 scb (n + l.length) SC T ft q) := by
 have hhn := S.hn
 have hhm := S.hm
 have hbd := S.bounds (by omega)
 have hiq : i64b (q : Int) := by unfold i64b; omega
 obtain ⟨W1, hW1⟩ : ∃ W1, W.alloc (.cells #[.int .i64 0, .int .i64 0, .int .i64 0, .slice none 0 0, .slice none 0 0] 37) = W1 := ⟨_, rfl⟩
 have hRB : Box5 W1 W.heap.size (.int .i64 0) (.int .i64 0) (.int .i64 0) (.slice none 0 0) (.slice none 0 0) := by rw [← hW1]; exact Box5.new W _ _ _ _ _ _
 have hE1 : Ext W W1 := by rw [← hW1]; exact (Ext.refl W).alloc _
 have hs1 : W1.heap.size = W.heap.size + 1 := by rw [← hW1]; simp
 have h1 := h.ext hE1
 have hlk := typ_look h1.typ hiq
 obtain ⟨kz, sz, cz, A1, n1, c1, B1, m1, e1, hV⟩ : ∃ (kz sz cz : Int) (A1 : Option Addr) (n1 c1 : Nat) (B1 : Option Addr) (m1 e1 : Nat), (ft (q : Int)).getD (.agg #[.int .i64 0, .int .i64 0, .int .i64 0, .slice none 0 0, .slice none 0 0]) = .agg #[.int .i64 kz, .int .i64 sz, .int .i64 cz, .slice A1 n1 c1, .slice B1 m1 e1] := by
  cases hf : ft (q : Int) with
  | none => exact ⟨_, _, _, _, _, _, _, _, _, rfl⟩
  | some v =>
   obtain ⟨k, d', m, t, -, -, -, ⟨A1, n1, c1, B1, m1, e1, rfl, -⟩, -⟩ := h.typs _ _ hf
   exact ⟨_, _, _, _, _, _, _, _, _, rfl⟩
 rw [hV] at hlk
 obtain ⟨z, hz⟩ : ∃ z, (ft (q : Int)).isSome = z := ⟨_, rfl⟩
 rw [hz] at hlk
 have HLK := hid hlk
 obtain ⟨W2, hW2⟩ : ∃ W2, W1.alloc (.cells #[.int .i64 0, .int .i64 0, .int .i64 0, .slice none 0 0, .slice none 0 0] 37) = W2 := ⟨_, rfl⟩
 have hB2 : Box5 W2 W1.heap.size (.int .i64 0) (.int .i64 0) (.int .i64 0) (.slice none 0 0) (.slice none 0 0) := by rw [← hW2]; exact Box5.new W1 _ _ _ _ _ _
 have hE2 : Ext W1 W2 := by rw [← hW2]; exact (Ext.refl _).alloc _
 obtain ⟨W3, hW3, hB3, hH3, hS3, hX3⟩ := box5_set hB2 (.int .i64 kz) (.int .i64 sz) (.int .i64 cz) (.slice A1 n1 c1) (.slice B1 m1 e1)
 have HE3 := hid (hX3 W1 hE2 (Nat.le_refl _))
 have HW3 := hid hW3
 have HRB3 := hid (hRB.ext HE3.out)
 have HB3 := hid hB3
 have HH := hid (h1.ext HE3.out)
 have HEW := hid (hE1.trans HE3.out)
 have c8 := h1.now.box.1 8 _ rfl
 have HS := hid S
 have HQ : Hid (q < n ∧ rootP P0 q = q ∧ IsPtr l (q : Int)) := hid ⟨hq, hqq, hp⟩
 have HFL := hid hF
 have HPO := hid hP
 have HBD := hid hbd
 have HIQ := hid hiq
 have HVV := hid hV
 have HZ := hid hz
 have HOLD := hid h
 have HW : Hid (W0.heap.size ≤ W.heap.size ∧ ∀ b, T b → b < W.heap.size) := hid ⟨h.now.chg.size, fun b hb => (h.place b hb).2⟩
 have HS1 := hid hs1
 obtain ⟨sb, hsb⟩ : ∃ sb, D.b0 + 5 = sb := ⟨_, rfl⟩
 rw [hsb] at c8 ⊢
 have HSB := hid hsb
 obtain ⟨N, hN⟩ : ∃ N, n + l.length = N := ⟨_, rfl⟩
 have HNN := hid hN
 rw [hN] at HH HPO HOLD ⊢
 obtain ⟨z0, z1, z2, z3, z4, zf⟩ := hB2
 have f0 := zf 0
 have f1 := zf 1
 have f2 := zf 2
 have f3 := zf 3
 have f4 := zf 4
 clear h h1 S hq hqq hp hF hP hbd hiq hV hz hE1 hRB hs1 hsb hN hlk hE2 hW3 hB3 hH3 hS3 hX3 zf
 go_enter Try.func24, Try.ntmps24
 go_upto_region 2 with (first
  | ((with_reducible refine wpList_at_lkT 63 (.tmp 13) (.tmp 14) rfl rfl ?_); refine wpList_lookT rfl (.tmp 13) (.tmp 14) 63 rfl HLK.out ?_)
  | fail)
 rw [HW3.out]
 clear z0 z1 z2 z3 z4 f0 f1 f2 f3 f4 hW1 hW2 c8
 obtain ⟨s0, s1, s2, s3, s4, -⟩ := HB3.out
 have HRT : Hid (¬ T W.heap.size) := hid (fun k => by have := HW.out.2 _ k; omega)
 cases z with
 | true =>
  obtain ⟨r0, r1, r2, r3, r4, rf⟩ := HRB3.out
  have u0 := rf 0
  have u1 := rf 1
  have u2 := rf 2
  have u3 := rf 3
  have u4 := rf 4
  obtain ⟨W9, hW9, hB9, hH9, hS9, hX9⟩ := box5_set (HRB3.out) (.int .i64 kz) (.int .i64 sz) (.int .i64 cz) (.slice A1 n1 c1) (.slice B1 m1 e1)
  obtain ⟨t0, t1, t2, t3, t4, -⟩ := hB9
  have hC9 := set5_chg W3 W.heap.size (.int .i64 kz) (.int .i64 sz) (.int .i64 cz) (.slice A1 n1 c1) (.slice B1 m1 e1)
  rw [hW9] at hC9
  have HC9 := hid hC9
  have HW9 := hid hW9
  clear hW9 hH9 hS9 hX9 rf hC9
  go_wp2
  try rw [HW9.out]
  clear r0 r1 r2 r3 r4
  refine bodyPost_ret (v := .agg #[(.int .i64 kz), (.int .i64 sz), (.int .i64 cz), (.slice A1 n1 c1), (.slice B1 m1 e1)]) (by simp [results, Try.results24, go_sem, t0, t1, t2, t3, t4]) rfl ?_
  obtain ⟨v, hv⟩ := Option.isSome_iff_exists.1 HZ.out
  obtain ⟨k, d', mm, t, k1, k2, k3, k4, k5, k6, k7⟩ := HOLD.out.typs _ _ hv
  have ev : v = .agg #[.int .i64 kz, .int .i64 sz, .int .i64 cz, .slice A1 n1 c1, .slice B1 m1 e1] := by have := HVV.out; rw [hv] at this; exact this
  have e2 : k = q := by omega
  subst e2
  rw [ev] at k4
  exact ⟨_, t, d', mm, P, T, ft, fc, fr, rfl, HC9.out.ty (k4.ext HEW.out) (fun b hb e => HRT.out (by rw [← e]; exact hb)), k5, k7, k6, PtTo.far HS.out (PtTo.start HH.out (Chg.of_ext _ HEW.out)) HC9.out (fun b hb => ⟨by have := HW.out.1; omega, by omega, by rw [hb]; exact HRT.out⟩)⟩
 | false =>
  have HNO : Hid (ft (q : Int) = none) := hid (by have := HZ.out; cases hf : ft (q : Int) with | none => rfl | some v => rw [hf] at this; cases this)
  have HST := hid (show Calls Try.prog 39 #[.pointer (some ⟨sb, 0, none⟩), .int .i64 q] W3 (StrucPost d D W0 W3 (.slice A m me) l n P0 v6 scb N SC T ft q) from by
   have h9 := struct_any HS.out HFL.out (by rw [HNN.out]; exact HH.out) HQ.out.1 HQ.out.2.1 HQ.out.2.2 (by rw [HNN.out]; exact HPO.out)
   rw [HSB.out, HNN.out] at h9
   exact h9)
  clear s0 s1 s2 s3 s4
  go_wp2_with fail
  refine HST.out.mono ?_
  rintro e w5 ⟨v5, t, d5, k5, P7, T7, ft7, fc7, fr7, rfl, hv5, hst, hto⟩
  have HV5 := hid hv5
  have HSTR := hid hst
  have HTO := hid hto
  have hk5 : k5 ≤ 256 := by rcases hst with ⟨-, e, -⟩ | ⟨e, -⟩; omega; exact e
  have hsz3 : W.heap.size + 1 < W3.heap.size := by have h1 := HB3.out.lt; have h2 := HS1.out; omega
  have HNRB : Hid (¬ T7 W.heap.size) := hid (fun k => by
   rcases hto.plc _ k with e | e
   ·exact HRT.out e
   ·omega)
  have HNT : Hid (ft7 (q : Int) = none) := hid (by
   cases hf : ft7 (q : Int) with
   | none => rfl
   | some v =>
    rcases hto.new (q : Int) (by rw [hf]; simp) with e | ⟨y, e1, e2⟩
    ·exact absurd HNO.out e
    ·have : q = y := by omega
     subst this
     exact absurd e2 (Nat.lt_irrefl _))
  have hn4 : ∀ y, W0.heap.size ≤ y → ¬ Mut3 D y := fun y hy e => by have := HBD.out; unfold Mut3 at e; omega
  have hrb5 := HRB3.out.chg hto.chg (hn4 _ HW.out.1)
  have hsz5 := hto.chg.size
  obtain ⟨A5, n5, c5, B5, m5, e5, rfl, -⟩ := hv5
  obtain ⟨W6, hW6⟩ : ∃ W6, w5.alloc (.cells #[.int .i64 0, .int .i64 0, .int .i64 0, .slice none 0 0, .slice none 0 0] 37) = W6 := ⟨_, rfl⟩
  have hB6 : Box5 W6 w5.heap.size (.int .i64 0) (.int .i64 0) (.int .i64 0) (.slice none 0 0) (.slice none 0 0) := by rw [← hW6]; exact Box5.new w5 _ _ _ _ _ _
  have hE6 : Ext w5 W6 := by rw [← hW6]; exact (Ext.refl _).alloc _
  obtain ⟨W7, hW7, hB7, hH7, hS7, hX7⟩ := box5_set hB6 (.int .i64 t.kind) (.int .i64 t.size) (.int .i64 t.count) (.slice A5 n5 c5) (.slice B5 m5 e5)
  have HE7 := hid (hX7 w5 hE6 (Nat.le_refl _))
  have HW7 := hid hW7
  have HB7 := hid hB7
  obtain ⟨b7, hb7⟩ : ∃ b7, w5.heap.size = b7 := ⟨_, rfl⟩
  have HB7N : Hid (W0.heap.size ≤ b7 ∧ D.b0 + 5 < W0.heap.size ∧ W.heap.size < b7) := hid (by have := HBD.out; have := HW.out.1; omega)
  have HB7T : Hid (¬ T7 b7) := hid (fun k => by have := (hto.pts.place _ k).2; omega)
  have HH65 : Hid (n ≤ 65536) := hid hhn
  have hpre : PtTo d D W0 W (.slice A m me) l n P0 v6 scb N SC T ft (fun y => mu l n (y : Int) < mu l n (q : Int)) W3 P T ft fc fr := PtTo.start HH.out (Chg.of_ext _ HEW.out)
  have HTO7 := hid ((hpre.trans hto).ext HE7.out)
  have HRB7 := hid (hrb5.ext HE7.out)
  obtain ⟨z0, z1, z2, z3, z4, zf⟩ := hB6
  have f0 := zf 0
  have f1 := zf 1
  have f2 := zf 2
  have f3 := zf 3
  have f4 := zf 4
  rw [hb7] at HW7 HB7 z0 z1 z2 z3 z4 f0 f1 f2 f3 f4
  have g0 : ¬ (k5 : Int) > 256 := by omega
  clear hst hto hn4 hrb5 hE6 hW7 hB7 hH7 hS7 hX7 zf hpre HST
  go_upto_region 5 with fail
  rw [HW7.out]
  clear z0 z1 z2 z3 z4 f0 f1 f2 f3 f4 hW6 hb7
  obtain ⟨mm, hmm⟩ := struc_ptr HSTR.out
  have HMI := hid hmm
  have HCI := hid (struc_cnt HSTR.out)
  clear hmm
  obtain ⟨s0, s1, s2, s3, s4, -⟩ := HB7.out
  by_cases h3 : t.kind = 3
  ·have g1 : (t.kind != 3) = false := by simp [h3]
   have H3 := hid h3
   obtain ⟨tk, htk⟩ : ∃ tk, t.kind = tk := ⟨_, rfl⟩
   have HCK := hid (tcheck_any d5 W7 t _ ((HV5.out.ext HE7.out).all))
   obtain ⟨ck, hck⟩ : ∃ ck, chkT t = ck := ⟨_, rfl⟩
   rw [hck] at HCK
   have HCKE := hid hck
   clear hck h3 htk
   go_wp2_with fail
   refine HCK.out.mono ?_
   rintro e w8 ⟨rfl, hx8⟩
   have HTO8 := hid (HTO7.out.ext hx8)
   have HRB8 := hid (HRB7.out.ext hx8)
   have HB8 := hid (HB7.out.ext hx8)
   have HX8 := hid hx8
   clear hx8 s0 s1 s2 s3 s4
   obtain ⟨s0, s1, s2, s3, s4, -⟩ := HB8.out
   by_cases hc0 : ck = 0
   ·have g2 : ((ck : Int) != 0) = false := by simp [hc0]
    have HMM : Hid (PtrTy l mm (q : Int) t) := hid (by have := HMI.out; rwa [if_neg (by rintro (e | e | e); omega; exact e H3.out; exact e (HCKE.out.trans hc0))] at this)
    have HCC : Hid (k5 = cntT t) := hid (by have := HCI.out; rwa [if_neg (by rintro (e | e | e); omega; exact e H3.out; exact e (HCKE.out.trans hc0)), if_neg (by rintro (e | e | e); omega; exact e H3.out; exact e (HCKE.out.trans hc0))] at this)
    have hcb : cntT t ≤ 256 := by have := HCC.out; omega
    have HCB := hid hcb
    have HTOV := HTO8
    have HRBV := HRB8
    have K8 := hid (show w8.cell? ⟨sb, 8, none⟩ = some (.map (some D.b0)) from by rw [← HSB.out]; exact HTO8.out.pts.now.box.1 8 _ rfl)
    have K9 := hid (show w8.cell? ⟨sb, 9, none⟩ = some (.map (some (D.b0 + 1))) from by rw [← HSB.out]; exact HTO8.out.pts.now.box.1 9 _ rfl)
    clear hcb hc0
    have hv := HTOV.out.ext (Ext.refl w8).drew
    obtain ⟨st1, wa, hra, hga, hsa, hna⟩ := hv.pts.typ.entryNew Try.underlying63 (fun u => Try.zeroValue37 u) (by have := cntD_le n ft7; have := HH65.out; simp [maxLen]; omega) HIQ.out HNT.out
    have HNEW := hid (HMM.out)
    obtain ⟨wb, hrb, hmb, hgb, hsb⟩ := hna wa (.agg #[(.int .i64 t.kind), (.int .i64 t.size), (.int .i64 t.count), (.slice A5 n5 c5), (.slice B5 m5 e5)]) rfl
    have hcn := (hv.pts.cnt.kept hga (by simp)).kept hgb (by simp)
    obtain ⟨st2, wc, hrc, hgc, hsc, hnc⟩ := hcn.entryNew Try.underlying64 (fun u => Try.zeroValue3 u) (by have := cntD_le n fc7; have := HH65.out; simp [maxLen]; omega) HIQ.out (hv.pts.typn _ HNT.out)
    obtain ⟨wd, hrd, hmd, hgd, hsd⟩ := hnc wc (.int .i64 k5) rfl
    have hC1 : Chg (fun b => b = D.b0 ∨ b = D.b0 + 1) w8 wa := (Chg.of_ext _ (Ext.refl w8).drew).trans (Chg.of_grown hga (.inl rfl))
    have hC2 := hC1.trans (Chg.of_grown (M := fun b => b = D.b0 ∨ b = D.b0 + 1) hgb (.inl rfl))
    have hC3 := hC2.trans (Chg.of_grown (M := fun b => b = D.b0 ∨ b = D.b0 + 1) hgc (.inr rfl))
    have hC4 := hC3.trans (Chg.of_grown (M := fun b => b = D.b0 ∨ b = D.b0 + 1) hgd (.inr rfl))
    have hCd : Chg (fun b => b = D.b0 ∨ b = D.b0 + 1) w8.drew wd := (((Chg.of_grown (M := fun b => b = D.b0 ∨ b = D.b0 + 1) hga (.inl rfl)).trans (Chg.of_grown hgb (.inl rfl))).trans (Chg.of_grown hgc (.inr rfl))).trans (Chg.of_grown hgd (.inr rfl))
    have HPUT := hid (hv.pts.putT HS.out (by have := HQ.out.1; omega) HQ.out.1 HQ.out.2.1 HNT.out ((((HV5.out.ext HE7.out).ext HX8.out)).ext (Ext.refl w8).drew) HNEW.out HCB.out ((hmb.kept hgc (by simp)).kept hgd (by simp)) (show MapG (intK Try.underlying3) wd (D.b0 + 1) (cntD n fc7 + 1) (fun j => if j = (q : Int) then some (.int .i64 ((cntT t : Nat) : Int)) else fc7 j) from by rw [(show ((cntT t : Nat) : Int) = (k5 : Int) by rw [← HCC.out])]; exact hmd) hCd)
    have HRA := hid (show (Instr.mapEntry 63 (.map (some D.b0)) (.int .i64 q)).run Try.prog w8.drew = .ok (.tuple #[.agg #[.int .i64 0, .int .i64 0, .int .i64 0, .slice none 0 0, .slice none 0 0], goInt st1]) wa from hra)
    have HRB := hid hrb
    have HRC := hid (show (Instr.mapEntry 64 (.map (some (D.b0 + 1))) (.int .i64 q)).run Try.prog wb = .ok (.tuple #[.int .i64 0, goInt st2]) wc from hrc)
    have HRD := hid hrd
    have HC4 := hid hC4
    have HRBD := hid (HRBV.out.chg hC4 (fun e => by have := HBD.out; have := HW.out.1; omega))
    have HNS : Hid (¬ (sb = D.b0 ∨ sb = D.b0 + 1)) := hid (by have := HSB.out; omega)
    have HNB7 : Hid (¬ (b7 = D.b0 ∨ b7 = D.b0 + 1)) := hid (by have := HB7N.out; omega)
    have hSK : ∀ w', Chg (fun b => b = D.b0 ∨ b = D.b0 + 1) w8 w' → w'.cell? ⟨sb, 8, none⟩ = some (.map (some D.b0)) ∧ w'.cell? ⟨sb, 9, none⟩ = some (.map (some (D.b0 + 1))) ∧ w'.cell? ⟨b7, 0, none⟩ = some (.int .i64 t.kind) ∧ w'.cell? ⟨b7, 1, none⟩ = some (.int .i64 t.size) ∧ w'.cell? ⟨b7, 2, none⟩ = some (.int .i64 t.count) ∧ w'.cell? ⟨b7, 3, none⟩ = some (.slice A5 n5 c5) ∧ w'.cell? ⟨b7, 4, none⟩ = some (.slice B5 m5 e5) := fun w' hc => ⟨hc.cell K8.out (fun e => HNS.out e), hc.cell K9.out (fun e => HNS.out e), hc.cell (HB8.out).1 (fun e => HNB7.out e), hc.cell (HB8.out).2.1 (fun e => HNB7.out e), hc.cell (HB8.out).2.2.1 (fun e => HNB7.out e), hc.cell (HB8.out).2.2.2.1 (fun e => HNB7.out e), hc.cell (HB8.out).2.2.2.2.1 (fun e => HNB7.out e)⟩
    have HS0 := hid (hSK _ (Chg.of_ext _ (Ext.refl w8).drew))
    have HSA := hid (hSK _ hC1)
    have HSB2 := hid (hSK _ hC2)
    have HSC2 := hid (hSK _ hC3)
    have HSD := hid (hSK _ hC4)
    clear hv hra hga hsa hna hrb hmb hgb hsb hcn hrc hgc hsc hnc hrd hmd hgd hsd hC1 hC2 hC3 hC4 hCd hSK
    go_upto_region 7 with fail
    refine wp_region_split 17 (by kernel_rfl) rfl rfl (by kernel_rfl) (fun w' => w'.cell? ⟨sb, 8, none⟩ = some (.map (some D.b0)) ∧ w'.cell? ⟨sb, 9, none⟩ = some (.map (some (D.b0 + 1))) ∧ w'.cell? ⟨b7, 0, none⟩ = some (.int .i64 t.kind) ∧ w'.cell? ⟨b7, 1, none⟩ = some (.int .i64 t.size) ∧ w'.cell? ⟨b7, 2, none⟩ = some (.int .i64 t.count) ∧ w'.cell? ⟨b7, 3, none⟩ = some (.slice A5 n5 c5) ∧ w'.cell? ⟨b7, 4, none⟩ = some (.slice B5 m5 e5)) HS0.out (fun hSg61q0 => ?_)
    refine rgT6 0 1 2 3 4 5 ?_
    refine rgT6 6 7 8 9 10 11 ?_
    refine rgC 12 (fun K hK => ?_)
    refine step_mapEntry rfl (.tmp 42) (.tmp 43) 63 rfl HRA.out ?_
    skip
    refine rgK hK HSA.out (fun hSg61q1 => ?_)
    clear hK K
    refine rgT 13 ?_
    refine rgC 14 (fun K hK => ?_)
    refine step_entryStore rfl (.tmp 42) (.tmp 52) (.tmp 49) 63 rfl HRB.out ?_
    skip
    refine rgK hK HSB2.out (fun hSg61q2 => ?_)
    clear hK K
    refine rgC 15 (fun K hK => ?_)
    refine step_mapEntry rfl (.tmp 47) (.tmp 48) 64 rfl HRC.out ?_
    skip
    refine rgK hK HSC2.out (fun hSg61q3 => ?_)
    clear hK K
    refine rgT 16 ?_
    refine wpAnyH_done (by kernel_rfl) ?_ _
    change wpList _ _ _ _ _ _
    refine wpList_entryStore rfl (.tmp 47) (.tmp 54) (.tmp 50) 64 rfl HRD.out ?_
    obtain ⟨-, -, e0, e1', e2, e3, e4⟩ := HSD.out
    obtain ⟨r0, r1, r2, r3, r4, rf⟩ := HRBD.out
    have u0 := rf 0
    have u1 := rf 1
    have u2 := rf 2
    have u3 := rf 3
    have u4 := rf 4
    obtain ⟨W9, hW9, hB9, hH9, hS9, hX9⟩ := box5_set (HRBD.out) (.int .i64 t.kind) (.int .i64 t.size) (.int .i64 t.count) (.slice A5 n5 c5) (.slice B5 m5 e5)
    obtain ⟨t0, t1, t2, t3, t4, -⟩ := hB9
    have hC9 := set5_chg wd W.heap.size (.int .i64 t.kind) (.int .i64 t.size) (.int .i64 t.count) (.slice A5 n5 c5) (.slice B5 m5 e5)
    rw [hW9] at hC9
    have HC9 := hid hC9
    have HW9 := hid hW9
    clear hW9 hH9 hS9 hX9 rf hC9
    go_wp2
    try rw [HW9.out]
    clear r0 r1 r2 r3 r4
    refine bodyPost_ret (v := .agg #[(.int .i64 t.kind), (.int .i64 t.size), (.int .i64 t.count), (.slice A5 n5 c5), (.slice B5 m5 e5)]) (by simp [results, Try.results24, go_sem, t0, t1, t2, t3, t4]) rfl ?_
    refine ⟨_, t, d5, mm, P7, T7, _, _, fr7, rfl, HC9.out.ty (HC4.out.ty (((HV5.out.ext HE7.out).ext HX8.out)) (fun b hb e => by have := (HTOV.out.pts.place b hb).1; have := HBD.out; omega)) (fun b hb e => HNRB.out (by rw [← e]; exact hb)), HNEW.out, HCB.out, by simp, PtTo.far HS.out ⟨HPUT.out, HTOV.out.chg.trans (HC4.out.mono (fun b hb => by rcases hb with hb | hb; exact .inr (.inl hb); exact .inr (.inr (.inl hb)))), HTOV.out.plc, fun x hx => ?_, HTOV.out.sub⟩ HC9.out (fun b hb => ⟨by have := HW.out.1; omega, by omega, by rw [hb]; exact HNRB.out⟩)⟩
    by_cases hx' : x = (q : Int)
    ·exact .inr ⟨q, hx', Nat.le_refl _⟩
    ·simp only [if_neg hx'] at hx
     rcases HTOV.out.new x hx with e | ⟨y, e1, e2⟩
     ·exact .inl e
     ·exact .inr ⟨y, e1, Nat.le_of_lt e2⟩
   ·have g2 : ((ck : Int) != 0) = true := by simp [hc0]
    have HMM : Hid (PtrTy l mm (q : Int) Ty.any) := hid (by have := HMI.out; rwa [if_pos (.inr (.inr (by rw [HCKE.out]; exact hc0)))] at this)
    clear hc0
    go_wp2_with fail
    refine (vany_any 0 w8).mono ?_
    rintro e w10 ⟨v10, rfl, hv10, hx10⟩
    have HTOX := hid (HTO8.out.ext hx10)
    have HRBX := hid (HRB8.out.ext hx10)
    have HBX := hid (HB8.out.ext hx10)
    have HV10 := hid hv10
    obtain ⟨A10, n10, c10, B10, m10, e10, rfl, -⟩ := hv10
    clear hx10 s0 s1 s2 s3 s4
    obtain ⟨W11, hW11, hB11, hH11, hS11, hX11⟩ := box5_set HBX.out (.int .i64 Ty.any.kind) (.int .i64 Ty.any.size) (.int .i64 Ty.any.count) (.slice A10 n10 c10) (.slice B10 m10 e10)
    have hC11 := set5_chg' hW11
    have HW11 := hid hW11
    have HB11 := hid hB11
    have HTOV := hid (PtTo.far HS.out HTOX.out hC11 (fun b hb => ⟨by have := HB7N.out; omega, by have := HB7N.out; omega, by rw [hb]; exact HB7T.out⟩))
    have HRBV := hid (HRBX.out.chg hC11 (fun e => by have := HB7N.out; omega))
    obtain ⟨x0, x1, x2, x3, x4, xf⟩ := HBX.out
    have j0 := xf 0
    have j1 := xf 1
    have j2 := xf 2
    have j3 := xf 3
    have j4 := xf 4
    have K8 := hid (show W11.cell? ⟨sb, 8, none⟩ = some (.map (some D.b0)) from by rw [← HSB.out]; exact HTOV.out.pts.now.box.1 8 _ rfl)
    have K9 := hid (show W11.cell? ⟨sb, 9, none⟩ = some (.map (some (D.b0 + 1))) from by rw [← HSB.out]; exact HTOV.out.pts.now.box.1 9 _ rfl)
    have HCB : Hid (cntT Ty.any ≤ 256) := hid (by decide)
    clear hW11 hB11 hH11 hS11 hX11 hC11 xf
    go_upto_region 7 with fail
    rw [HW11.out]
    clear x0 x1 x2 x3 x4 j0 j1 j2 j3 j4
    have hv := HTOV.out.ext (Ext.refl W11).drew
    obtain ⟨st1, wa, hra, hga, hsa, hna⟩ := hv.pts.typ.entryNew Try.underlying63 (fun u => Try.zeroValue37 u) (by have := cntD_le n ft7; have := HH65.out; simp [maxLen]; omega) HIQ.out HNT.out
    have HNEW := hid (HMM.out)
    obtain ⟨wb, hrb, hmb, hgb, hsb⟩ := hna wa (.agg #[(.int .i64 Ty.any.kind), (.int .i64 Ty.any.size), (.int .i64 Ty.any.count), (.slice A10 n10 c10), (.slice B10 m10 e10)]) rfl
    have hcn := (hv.pts.cnt.kept hga (by simp)).kept hgb (by simp)
    obtain ⟨st2, wc, hrc, hgc, hsc, hnc⟩ := hcn.entryNew Try.underlying64 (fun u => Try.zeroValue3 u) (by have := cntD_le n fc7; have := HH65.out; simp [maxLen]; omega) HIQ.out (hv.pts.typn _ HNT.out)
    obtain ⟨wd, hrd, hmd, hgd, hsd⟩ := hnc wc (.int .i64 1) rfl
    have hC1 : Chg (fun b => b = D.b0 ∨ b = D.b0 + 1) W11 wa := (Chg.of_ext _ (Ext.refl W11).drew).trans (Chg.of_grown hga (.inl rfl))
    have hC2 := hC1.trans (Chg.of_grown (M := fun b => b = D.b0 ∨ b = D.b0 + 1) hgb (.inl rfl))
    have hC3 := hC2.trans (Chg.of_grown (M := fun b => b = D.b0 ∨ b = D.b0 + 1) hgc (.inr rfl))
    have hC4 := hC3.trans (Chg.of_grown (M := fun b => b = D.b0 ∨ b = D.b0 + 1) hgd (.inr rfl))
    have hCd : Chg (fun b => b = D.b0 ∨ b = D.b0 + 1) W11.drew wd := (((Chg.of_grown (M := fun b => b = D.b0 ∨ b = D.b0 + 1) hga (.inl rfl)).trans (Chg.of_grown hgb (.inl rfl))).trans (Chg.of_grown hgc (.inr rfl))).trans (Chg.of_grown hgd (.inr rfl))
    have HPUT := hid (hv.pts.putT HS.out (by have := HQ.out.1; omega) HQ.out.1 HQ.out.2.1 HNT.out (((show TyV 0 W11 T7 (.agg #[.int .i64 Ty.any.kind, .int .i64 Ty.any.size, .int .i64 Ty.any.count, .slice A10 n10 c10, .slice B10 m10 e10]) Ty.any from tyv_anyS HV10.out)).ext (Ext.refl W11).drew) HNEW.out HCB.out ((hmb.kept hgc (by simp)).kept hgd (by simp)) (show MapG (intK Try.underlying3) wd (D.b0 + 1) (cntD n fc7 + 1) (fun j => if j = (q : Int) then some (.int .i64 ((cntT Ty.any : Nat) : Int)) else fc7 j) from by rw [(show ((cntT Ty.any : Nat) : Int) = 1 by decide)]; exact hmd) hCd)
    have HRA := hid (show (Instr.mapEntry 63 (.map (some D.b0)) (.int .i64 q)).run Try.prog W11.drew = .ok (.tuple #[.agg #[.int .i64 0, .int .i64 0, .int .i64 0, .slice none 0 0, .slice none 0 0], goInt st1]) wa from hra)
    have HRB := hid hrb
    have HRC := hid (show (Instr.mapEntry 64 (.map (some (D.b0 + 1))) (.int .i64 q)).run Try.prog wb = .ok (.tuple #[.int .i64 0, goInt st2]) wc from hrc)
    have HRD := hid hrd
    have HC4 := hid hC4
    have HRBD := hid (HRBV.out.chg hC4 (fun e => by have := HBD.out; have := HW.out.1; omega))
    have HNS : Hid (¬ (sb = D.b0 ∨ sb = D.b0 + 1)) := hid (by have := HSB.out; omega)
    have HNB7 : Hid (¬ (b7 = D.b0 ∨ b7 = D.b0 + 1)) := hid (by have := HB7N.out; omega)
    have hSK : ∀ w', Chg (fun b => b = D.b0 ∨ b = D.b0 + 1) W11 w' → w'.cell? ⟨sb, 8, none⟩ = some (.map (some D.b0)) ∧ w'.cell? ⟨sb, 9, none⟩ = some (.map (some (D.b0 + 1))) ∧ w'.cell? ⟨b7, 0, none⟩ = some (.int .i64 Ty.any.kind) ∧ w'.cell? ⟨b7, 1, none⟩ = some (.int .i64 Ty.any.size) ∧ w'.cell? ⟨b7, 2, none⟩ = some (.int .i64 Ty.any.count) ∧ w'.cell? ⟨b7, 3, none⟩ = some (.slice A10 n10 c10) ∧ w'.cell? ⟨b7, 4, none⟩ = some (.slice B10 m10 e10) := fun w' hc => ⟨hc.cell K8.out (fun e => HNS.out e), hc.cell K9.out (fun e => HNS.out e), hc.cell (HB11.out).1 (fun e => HNB7.out e), hc.cell (HB11.out).2.1 (fun e => HNB7.out e), hc.cell (HB11.out).2.2.1 (fun e => HNB7.out e), hc.cell (HB11.out).2.2.2.1 (fun e => HNB7.out e), hc.cell (HB11.out).2.2.2.2.1 (fun e => HNB7.out e)⟩
    have HS0 := hid (hSK _ (Chg.of_ext _ (Ext.refl W11).drew))
    have HSA := hid (hSK _ hC1)
    have HSB2 := hid (hSK _ hC2)
    have HSC2 := hid (hSK _ hC3)
    have HSD := hid (hSK _ hC4)
    clear hv hra hga hsa hna hrb hmb hgb hsb hcn hrc hgc hsc hnc hrd hmd hgd hsd hC1 hC2 hC3 hC4 hCd hSK
    go_upto_region 7 with fail
    refine wp_region_split 17 (by kernel_rfl) rfl rfl (by kernel_rfl) (fun w' => w'.cell? ⟨sb, 8, none⟩ = some (.map (some D.b0)) ∧ w'.cell? ⟨sb, 9, none⟩ = some (.map (some (D.b0 + 1))) ∧ w'.cell? ⟨b7, 0, none⟩ = some (.int .i64 Ty.any.kind) ∧ w'.cell? ⟨b7, 1, none⟩ = some (.int .i64 Ty.any.size) ∧ w'.cell? ⟨b7, 2, none⟩ = some (.int .i64 Ty.any.count) ∧ w'.cell? ⟨b7, 3, none⟩ = some (.slice A10 n10 c10) ∧ w'.cell? ⟨b7, 4, none⟩ = some (.slice B10 m10 e10)) HS0.out (fun hSg62q0 => ?_)
    refine rgT6 0 1 2 3 4 5 ?_
    refine rgT6 6 7 8 9 10 11 ?_
    refine rgC 12 (fun K hK => ?_)
    refine step_mapEntry rfl (.tmp 42) (.tmp 43) 63 rfl HRA.out ?_
    skip
    refine rgK hK HSA.out (fun hSg62q1 => ?_)
    clear hK K
    refine rgT 13 ?_
    refine rgC 14 (fun K hK => ?_)
    refine step_entryStore rfl (.tmp 42) (.tmp 52) (.tmp 49) 63 rfl HRB.out ?_
    skip
    refine rgK hK HSB2.out (fun hSg62q2 => ?_)
    clear hK K
    refine rgC 15 (fun K hK => ?_)
    refine step_mapEntry rfl (.tmp 47) (.tmp 48) 64 rfl HRC.out ?_
    skip
    refine rgK hK HSC2.out (fun hSg62q3 => ?_)
    clear hK K
    refine rgT 16 ?_
    refine wpAnyH_done (by kernel_rfl) ?_ _
    change wpList _ _ _ _ _ _
    refine wpList_entryStore rfl (.tmp 47) (.tmp 54) (.tmp 50) 64 rfl HRD.out ?_
    obtain ⟨-, -, e0, e1', e2, e3, e4⟩ := HSD.out
    obtain ⟨r0, r1, r2, r3, r4, rf⟩ := HRBD.out
    have u0 := rf 0
    have u1 := rf 1
    have u2 := rf 2
    have u3 := rf 3
    have u4 := rf 4
    obtain ⟨W9, hW9, hB9, hH9, hS9, hX9⟩ := box5_set (HRBD.out) (.int .i64 Ty.any.kind) (.int .i64 Ty.any.size) (.int .i64 Ty.any.count) (.slice A10 n10 c10) (.slice B10 m10 e10)
    obtain ⟨t0, t1, t2, t3, t4, -⟩ := hB9
    have hC9 := set5_chg wd W.heap.size (.int .i64 Ty.any.kind) (.int .i64 Ty.any.size) (.int .i64 Ty.any.count) (.slice A10 n10 c10) (.slice B10 m10 e10)
    rw [hW9] at hC9
    have HC9 := hid hC9
    have HW9 := hid hW9
    clear hW9 hH9 hS9 hX9 rf hC9
    go_wp2
    try rw [HW9.out]
    clear r0 r1 r2 r3 r4
    refine bodyPost_ret (v := .agg #[(.int .i64 Ty.any.kind), (.int .i64 Ty.any.size), (.int .i64 Ty.any.count), (.slice A10 n10 c10), (.slice B10 m10 e10)]) (by simp [results, Try.results24, go_sem, t0, t1, t2, t3, t4]) rfl ?_
    refine ⟨_, Ty.any, 0, mm, P7, T7, _, _, fr7, rfl, HC9.out.ty (HC4.out.ty ((show TyV 0 W11 T7 (.agg #[.int .i64 Ty.any.kind, .int .i64 Ty.any.size, .int .i64 Ty.any.count, .slice A10 n10 c10, .slice B10 m10 e10]) Ty.any from tyv_anyS HV10.out)) (fun b hb e => by have := (HTOV.out.pts.place b hb).1; have := HBD.out; omega)) (fun b hb e => HNRB.out (by rw [← e]; exact hb)), HNEW.out, HCB.out, by simp, PtTo.far HS.out ⟨HPUT.out, HTOV.out.chg.trans (HC4.out.mono (fun b hb => by rcases hb with hb | hb; exact .inr (.inl hb); exact .inr (.inr (.inl hb)))), HTOV.out.plc, fun x hx => ?_, HTOV.out.sub⟩ HC9.out (fun b hb => ⟨by have := HW.out.1; omega, by omega, by rw [hb]; exact HNRB.out⟩)⟩
    by_cases hx' : x = (q : Int)
    ·exact .inr ⟨q, hx', Nat.le_refl _⟩
    ·simp only [if_neg hx'] at hx
     rcases HTOV.out.new x hx with e | ⟨y, e1, e2⟩
     ·exact .inl e
     ·exact .inr ⟨y, e1, Nat.le_of_lt e2⟩
  ·have g1 : (t.kind != 3) = true := by simp [h3]
   have HMM : Hid (PtrTy l mm (q : Int) Ty.any) := hid (by have := HMI.out; rwa [if_pos (.inr (.inl h3))] at this)
   obtain ⟨tk, htk⟩ : ∃ tk, t.kind = tk := ⟨_, rfl⟩
   rw [htk] at s0 g1 h3
   clear htk
   go_wp2_with fail
   refine (vany_any 0 W7).mono ?_
   rintro e w10 ⟨v10, rfl, hv10, hx10⟩
   have HTOX := hid (HTO7.out.ext hx10)
   have HRBX := hid (HRB7.out.ext hx10)
   have HBX := hid (HB7.out.ext hx10)
   have HV10 := hid hv10
   obtain ⟨A10, n10, c10, B10, m10, e10, rfl, -⟩ := hv10
   clear hx10 s0 s1 s2 s3 s4
   obtain ⟨W11, hW11, hB11, hH11, hS11, hX11⟩ := box5_set HBX.out (.int .i64 Ty.any.kind) (.int .i64 Ty.any.size) (.int .i64 Ty.any.count) (.slice A10 n10 c10) (.slice B10 m10 e10)
   have hC11 := set5_chg' hW11
   have HW11 := hid hW11
   have HB11 := hid hB11
   have HTOV := hid (PtTo.far HS.out HTOX.out hC11 (fun b hb => ⟨by have := HB7N.out; omega, by have := HB7N.out; omega, by rw [hb]; exact HB7T.out⟩))
   have HRBV := hid (HRBX.out.chg hC11 (fun e => by have := HB7N.out; omega))
   obtain ⟨x0, x1, x2, x3, x4, xf⟩ := HBX.out
   have j0 := xf 0
   have j1 := xf 1
   have j2 := xf 2
   have j3 := xf 3
   have j4 := xf 4
   have K8 := hid (show W11.cell? ⟨sb, 8, none⟩ = some (.map (some D.b0)) from by rw [← HSB.out]; exact HTOV.out.pts.now.box.1 8 _ rfl)
   have K9 := hid (show W11.cell? ⟨sb, 9, none⟩ = some (.map (some (D.b0 + 1))) from by rw [← HSB.out]; exact HTOV.out.pts.now.box.1 9 _ rfl)
   have HCB : Hid (cntT Ty.any ≤ 256) := hid (by decide)
   clear hW11 hB11 hH11 hS11 hX11 hC11 xf
   go_upto_region 7 with fail
   rw [HW11.out]
   clear x0 x1 x2 x3 x4 j0 j1 j2 j3 j4
   have hv := HTOV.out.ext (Ext.refl W11).drew
   obtain ⟨st1, wa, hra, hga, hsa, hna⟩ := hv.pts.typ.entryNew Try.underlying63 (fun u => Try.zeroValue37 u) (by have := cntD_le n ft7; have := HH65.out; simp [maxLen]; omega) HIQ.out HNT.out
   have HNEW := hid (HMM.out)
   obtain ⟨wb, hrb, hmb, hgb, hsb⟩ := hna wa (.agg #[(.int .i64 Ty.any.kind), (.int .i64 Ty.any.size), (.int .i64 Ty.any.count), (.slice A10 n10 c10), (.slice B10 m10 e10)]) rfl
   have hcn := (hv.pts.cnt.kept hga (by simp)).kept hgb (by simp)
   obtain ⟨st2, wc, hrc, hgc, hsc, hnc⟩ := hcn.entryNew Try.underlying64 (fun u => Try.zeroValue3 u) (by have := cntD_le n fc7; have := HH65.out; simp [maxLen]; omega) HIQ.out (hv.pts.typn _ HNT.out)
   obtain ⟨wd, hrd, hmd, hgd, hsd⟩ := hnc wc (.int .i64 1) rfl
   have hC1 : Chg (fun b => b = D.b0 ∨ b = D.b0 + 1) W11 wa := (Chg.of_ext _ (Ext.refl W11).drew).trans (Chg.of_grown hga (.inl rfl))
   have hC2 := hC1.trans (Chg.of_grown (M := fun b => b = D.b0 ∨ b = D.b0 + 1) hgb (.inl rfl))
   have hC3 := hC2.trans (Chg.of_grown (M := fun b => b = D.b0 ∨ b = D.b0 + 1) hgc (.inr rfl))
   have hC4 := hC3.trans (Chg.of_grown (M := fun b => b = D.b0 ∨ b = D.b0 + 1) hgd (.inr rfl))
   have hCd : Chg (fun b => b = D.b0 ∨ b = D.b0 + 1) W11.drew wd := (((Chg.of_grown (M := fun b => b = D.b0 ∨ b = D.b0 + 1) hga (.inl rfl)).trans (Chg.of_grown hgb (.inl rfl))).trans (Chg.of_grown hgc (.inr rfl))).trans (Chg.of_grown hgd (.inr rfl))
   have HPUT := hid (hv.pts.putT HS.out (by have := HQ.out.1; omega) HQ.out.1 HQ.out.2.1 HNT.out (((show TyV 0 W11 T7 (.agg #[.int .i64 Ty.any.kind, .int .i64 Ty.any.size, .int .i64 Ty.any.count, .slice A10 n10 c10, .slice B10 m10 e10]) Ty.any from tyv_anyS HV10.out)).ext (Ext.refl W11).drew) HNEW.out HCB.out ((hmb.kept hgc (by simp)).kept hgd (by simp)) (show MapG (intK Try.underlying3) wd (D.b0 + 1) (cntD n fc7 + 1) (fun j => if j = (q : Int) then some (.int .i64 ((cntT Ty.any : Nat) : Int)) else fc7 j) from by rw [(show ((cntT Ty.any : Nat) : Int) = 1 by decide)]; exact hmd) hCd)
   have HRA := hid (show (Instr.mapEntry 63 (.map (some D.b0)) (.int .i64 q)).run Try.prog W11.drew = .ok (.tuple #[.agg #[.int .i64 0, .int .i64 0, .int .i64 0, .slice none 0 0, .slice none 0 0], goInt st1]) wa from hra)
   have HRB := hid hrb
   have HRC := hid (show (Instr.mapEntry 64 (.map (some (D.b0 + 1))) (.int .i64 q)).run Try.prog wb = .ok (.tuple #[.int .i64 0, goInt st2]) wc from hrc)
   have HRD := hid hrd
   have HC4 := hid hC4
   have HRBD := hid (HRBV.out.chg hC4 (fun e => by have := HBD.out; have := HW.out.1; omega))
   have HNS : Hid (¬ (sb = D.b0 ∨ sb = D.b0 + 1)) := hid (by have := HSB.out; omega)
   have HNB7 : Hid (¬ (b7 = D.b0 ∨ b7 = D.b0 + 1)) := hid (by have := HB7N.out; omega)
   have hSK : ∀ w', Chg (fun b => b = D.b0 ∨ b = D.b0 + 1) W11 w' → w'.cell? ⟨sb, 8, none⟩ = some (.map (some D.b0)) ∧ w'.cell? ⟨sb, 9, none⟩ = some (.map (some (D.b0 + 1))) ∧ w'.cell? ⟨b7, 0, none⟩ = some (.int .i64 Ty.any.kind) ∧ w'.cell? ⟨b7, 1, none⟩ = some (.int .i64 Ty.any.size) ∧ w'.cell? ⟨b7, 2, none⟩ = some (.int .i64 Ty.any.count) ∧ w'.cell? ⟨b7, 3, none⟩ = some (.slice A10 n10 c10) ∧ w'.cell? ⟨b7, 4, none⟩ = some (.slice B10 m10 e10) := fun w' hc => ⟨hc.cell K8.out (fun e => HNS.out e), hc.cell K9.out (fun e => HNS.out e), hc.cell (HB11.out).1 (fun e => HNB7.out e), hc.cell (HB11.out).2.1 (fun e => HNB7.out e), hc.cell (HB11.out).2.2.1 (fun e => HNB7.out e), hc.cell (HB11.out).2.2.2.1 (fun e => HNB7.out e), hc.cell (HB11.out).2.2.2.2.1 (fun e => HNB7.out e)⟩
   have HS0 := hid (hSK _ (Chg.of_ext _ (Ext.refl W11).drew))
   have HSA := hid (hSK _ hC1)
   have HSB2 := hid (hSK _ hC2)
   have HSC2 := hid (hSK _ hC3)
   have HSD := hid (hSK _ hC4)
   clear hv hra hga hsa hna hrb hmb hgb hsb hcn hrc hgc hsc hnc hrd hmd hgd hsd hC1 hC2 hC3 hC4 hCd hSK
   go_upto_region 7 with fail
   refine wp_region_split 17 (by kernel_rfl) rfl rfl (by kernel_rfl) (fun w' => w'.cell? ⟨sb, 8, none⟩ = some (.map (some D.b0)) ∧ w'.cell? ⟨sb, 9, none⟩ = some (.map (some (D.b0 + 1))) ∧ w'.cell? ⟨b7, 0, none⟩ = some (.int .i64 Ty.any.kind) ∧ w'.cell? ⟨b7, 1, none⟩ = some (.int .i64 Ty.any.size) ∧ w'.cell? ⟨b7, 2, none⟩ = some (.int .i64 Ty.any.count) ∧ w'.cell? ⟨b7, 3, none⟩ = some (.slice A10 n10 c10) ∧ w'.cell? ⟨b7, 4, none⟩ = some (.slice B10 m10 e10)) HS0.out (fun hSg63q0 => ?_)
   refine rgT6 0 1 2 3 4 5 ?_
   refine rgT6 6 7 8 9 10 11 ?_
   refine rgC 12 (fun K hK => ?_)
   refine step_mapEntry rfl (.tmp 42) (.tmp 43) 63 rfl HRA.out ?_
   skip
   refine rgK hK HSA.out (fun hSg63q1 => ?_)
   clear hK K
   refine rgT 13 ?_
   refine rgC 14 (fun K hK => ?_)
   refine step_entryStore rfl (.tmp 42) (.tmp 52) (.tmp 49) 63 rfl HRB.out ?_
   skip
   refine rgK hK HSB2.out (fun hSg63q2 => ?_)
   clear hK K
   refine rgC 15 (fun K hK => ?_)
   refine step_mapEntry rfl (.tmp 47) (.tmp 48) 64 rfl HRC.out ?_
   skip
   refine rgK hK HSC2.out (fun hSg63q3 => ?_)
   clear hK K
   refine rgT 16 ?_
   refine wpAnyH_done (by kernel_rfl) ?_ _
   change wpList _ _ _ _ _ _
   refine wpList_entryStore rfl (.tmp 47) (.tmp 54) (.tmp 50) 64 rfl HRD.out ?_
   obtain ⟨-, -, e0, e1', e2, e3, e4⟩ := HSD.out
   obtain ⟨r0, r1, r2, r3, r4, rf⟩ := HRBD.out
   have u0 := rf 0
   have u1 := rf 1
   have u2 := rf 2
   have u3 := rf 3
   have u4 := rf 4
   obtain ⟨W9, hW9, hB9, hH9, hS9, hX9⟩ := box5_set (HRBD.out) (.int .i64 Ty.any.kind) (.int .i64 Ty.any.size) (.int .i64 Ty.any.count) (.slice A10 n10 c10) (.slice B10 m10 e10)
   obtain ⟨t0, t1, t2, t3, t4, -⟩ := hB9
   have hC9 := set5_chg wd W.heap.size (.int .i64 Ty.any.kind) (.int .i64 Ty.any.size) (.int .i64 Ty.any.count) (.slice A10 n10 c10) (.slice B10 m10 e10)
   rw [hW9] at hC9
   have HC9 := hid hC9
   have HW9 := hid hW9
   clear hW9 hH9 hS9 hX9 rf hC9
   go_wp2
   try rw [HW9.out]
   clear r0 r1 r2 r3 r4
   refine bodyPost_ret (v := .agg #[(.int .i64 Ty.any.kind), (.int .i64 Ty.any.size), (.int .i64 Ty.any.count), (.slice A10 n10 c10), (.slice B10 m10 e10)]) (by simp [results, Try.results24, go_sem, t0, t1, t2, t3, t4]) rfl ?_
   refine ⟨_, Ty.any, 0, mm, P7, T7, _, _, fr7, rfl, HC9.out.ty (HC4.out.ty ((show TyV 0 W11 T7 (.agg #[.int .i64 Ty.any.kind, .int .i64 Ty.any.size, .int .i64 Ty.any.count, .slice A10 n10 c10, .slice B10 m10 e10]) Ty.any from tyv_anyS HV10.out)) (fun b hb e => by have := (HTOV.out.pts.place b hb).1; have := HBD.out; omega)) (fun b hb e => HNRB.out (by rw [← e]; exact hb)), HNEW.out, HCB.out, by simp, PtTo.far HS.out ⟨HPUT.out, HTOV.out.chg.trans (HC4.out.mono (fun b hb => by rcases hb with hb | hb; exact .inr (.inl hb); exact .inr (.inr (.inl hb)))), HTOV.out.plc, fun x hx => ?_, HTOV.out.sub⟩ HC9.out (fun b hb => ⟨by have := HW.out.1; omega, by omega, by rw [hb]; exact HNRB.out⟩)⟩
   by_cases hx' : x = (q : Int)
   ·exact .inr ⟨q, hx', Nat.le_refl _⟩
   ·simp only [if_neg hx'] at hx
    rcases HTOV.out.new x hx with e | ⟨y, e1, e2⟩
    ·exact .inl e
    ·exact .inr ⟨y, e1, Nat.le_of_lt e2⟩
end
end Go.Proofs.Ytlmipgdnlfjpaaa
