/- reloc: Rebase. -/
import Derived.Test.YtnlofhbimfcejaaRelF
import Derived.Test.YtnlofhbimfcejaaRelB
namespace Go.Proofs.Ytnlofhbimfcejaa
open Go.RowKit Go.Deco
set_option linter.unusedSimpArgs false
set_option linter.unusedVariables false

theorem ob_smallN {o : Ob} (h : obCheck o = 0) : o.secs.length ≤ 16 ∧ (∀ s ∈ o.secs, s.data.length ≤ 65536) ∧ o.syms.length ≤ 256 ∧ o.rels.length ≤ 256 := by
  obtain ⟨h1, h2, h3, -, -⟩ := obCheck_zero h
  refine ⟨?_, fun s hs => ?_, ?_, h3⟩
  · apply Classical.byContradiction
    intro hn
    rw [secCheck_many (by omega)] at h1
    cases h1
  · apply Classical.byContradiction
    intro hn
    obtain ⟨k, hk, rfl⟩ := List.getElem_of_mem hs
    exact secCheck_big (List.getElem?_eq_getElem hk) (by omega) h1
  · apply Classical.byContradiction
    intro hn
    rw [symCheck_many (by omega)] at h2
    cases h2
def movS (by_ : Nat) (s : Sec) : Sec := { s with addr := w32 (s.addr + by_) }
def movY (by_ : Nat) (s : Sy) : Sy := { s with addr := w32 (s.addr + by_) }
def movH (by_ : Nat) (h : Hd) : Hd := { h with addr := w32 (h.addr + by_) }
theorem moveOb_eq (o : Ob) (m : Nat) : moveOb o m = ⟨w32 (o.entry + m), o.secs.map (movS m), o.syms.map (movY m), o.rels⟩ := rfl
/-- The first k of a list moved. -/
def mapTo {E : Type} (f : E → E) (k : Nat) (l : List E) : List E := (l.take k).map f ++ l.drop k
theorem mapTo_zero {E : Type} (f : E → E) (l : List E) : mapTo f 0 l = l := by simp [mapTo]
theorem mapTo_all {E : Type} (f : E → E) {l : List E} {k : Nat} (h : l.length ≤ k) : mapTo f k l = l.map f := by
  rw [mapTo, List.take_of_length_le h, List.drop_eq_nil_of_le h, List.append_nil]
theorem mapTo_at {E : Type} {f : E → E} {l : List E} {k : Nat} {x : E} (h : l[k]? = some x) : (mapTo f k l)[k]? = some x := by
  have hk := (List.getElem?_eq_some_iff.1 h).1
  rw [mapTo, List.getElem?_append_right (by simp; omega)]
  simp only [List.length_map, List.length_take, Nat.min_eq_left (Nat.le_of_lt hk), Nat.sub_self, List.getElem?_drop, Nat.add_zero]
  exact h
theorem mapTo_step {E : Type} {f : E → E} {l : List E} {k : Nat} {x : E} (h : l[k]? = some x) : (mapTo f k l).set k (f x) = mapTo f (k + 1) l := by
  have hk := (List.getElem?_eq_some_iff.1 h).1
  have hl : ((l.take k).map f).length = k := by simp; omega
  rw [mapTo, mapTo, take_snoc' h, List.map_append, List.set_append_right _ _ (by omega), hl, Nat.sub_self, drop_cons' h, List.set_cons_zero, List.append_assoc]
  rfl
theorem mapTo_len {E : Type} (f : E → E) (l : List E) (k : Nat) : (mapTo f k l).length = l.length := by
  rw [mapTo, List.length_append, List.length_map, ← List.length_append, List.take_append_drop]
theorem mapTo_get {E : Type} {f : E → E} {l : List E} {k j : Nat} {x : E} (h : l[j]? = some x) : (mapTo f k l)[j]? = some (if j < k then f x else x) := by
  by_cases hj : j < k
  · rw [if_pos hj, mapTo, List.getElem?_append_left (by have := (List.getElem?_eq_some_iff.1 h).1; simp; omega), List.getElem?_map, List.getElem?_take_of_lt hj, h]
    rfl
  · rw [if_neg hj, mapTo, List.getElem?_append_right (by simp; omega)]
    have hl := (List.getElem?_eq_some_iff.1 h).1
    rw [List.getElem?_drop, List.length_map, List.length_take, show k + (j - min k l.length) = j by omega]
    exact h
theorem SecsX.addr {w : World} {base hi g n c : Nat} {tS t8 : TypeId} {H : List Hd} {l : List Sec} (x : SecsX w base hi tS t8 (.slice (some ⟨g, 0, none⟩) n c) H l) {k : Nat} {h : Hd} {s : Sec} (hk : H[k]? = some h) (hs : l[k]? = some s) (a : Nat) (ha : a < 4294967296) :
    SecsX (w.setCell ⟨g, k * 5 + 1, none⟩ (.int .u32 a)) base hi tS t8 (.slice (some ⟨g, 0, none⟩) n c) (H.set k { h with addr := a }) (l.set k { s with addr := a }) := by
  have hold : ∀ j h', j ≠ k → (H.set k { h with addr := a })[j]? = some h' → H[j]? = some h' := fun j h' hj hh => by
    rw [List.getElem?_set_ne (fun e => hj e.symm)] at hh
    exact hh
  have hlt := (List.getElem?_eq_some_iff.1 hk).1
  have hls := (List.getElem?_eq_some_iff.1 hs).1
  have hnow : ∀ h', (H.set k { h with addr := a })[k]? = some h' → h' = { h with addr := a } := fun h' hh => by
    rw [List.getElem?_set_self hlt] at hh
    injection hh with hh
    exact hh.symm
  have hnows : ∀ s', (l.set k { s with addr := a })[k]? = some s' → s' = { s with addr := a } := fun s' hh => by
    rw [List.getElem?_set_self hls] at hh
    injection hh with hh
    exact hh.symm
  have dvof : ∀ (j : Nat) (h' : Hd), (H.set k { h with addr := a })[j]? = some h' → ∃ h0 : Hd, H[j]? = some h0 ∧ h'.dv = h0.dv := fun j h' hh => by
    by_cases e : j = k
    · subst e
      exact ⟨h, hk, by rw [hnow h' hh]; try rfl⟩
    · exact ⟨h', hold j h' e hh, rfl⟩
  have hok := hdrP.own_ok x.own h (List.mem_of_getElem? hk)
  refine ⟨hdrP.set x.own hk (by simp [hdrR]) rfl ⟨ha, hok.2⟩, by rw [List.length_set, List.length_set]; exact x.len, fun j h' s' hh hs' => ?_, fun j h' s' hh hs' => ?_, fun j h' b hh hb => ?_, fun i j h1 h2 b hij hh1 hh2 hb => ?_, x.topv, fun j h' b hh hb => ?_⟩
  · by_cases e : j = k
    · subst e
      rw [hnow h' hh, hnows s' hs']
      obtain ⟨a1, a2, a3, a4, a5⟩ := x.of j h s hk hs
      exact ⟨a1, rfl, a3, a4, a5⟩
    · rw [List.getElem?_set_ne (fun e' => e e'.symm)] at hs'
      exact x.of j h' s' (hold j h' e hh) hs'
  · obtain ⟨h0, hh0, ed⟩ := dvof j h' hh
    have hd : ∃ s0, l[j]? = some s0 ∧ s'.data = s0.data := by
      by_cases e : j = k
      · subst e
        exact ⟨s, hs, by rw [hnows s' hs']⟩
      · rw [List.getElem?_set_ne (fun e' => e e'.symm)] at hs'
        exact ⟨s', hs', rfl⟩
    obtain ⟨s0, hs0, ed2⟩ := hd
    rw [ed, ed2]
    refine (x.data j h0 s0 hh0 hs0).set_far (fun e => ?_) (fun _ h => h.elim)
    exact x.apart j h0 g hh0 e rfl
  · obtain ⟨h0, hh0, ed⟩ := dvof j h' hh
    rw [ed] at hb
    exact x.apart j h0 b hh0 hb
  · obtain ⟨h3, hh3, ed3⟩ := dvof i h1 hh1
    obtain ⟨h4, hh4, ed4⟩ := dvof j h2 hh2
    rw [ed3] at hb
    rw [ed4]
    exact x.sep i j h3 h4 b hij hh3 hh4 hb
  · obtain ⟨h0, hh0, ed⟩ := dvof j h' hh
    rw [ed] at hb
    exact x.topd j h0 b hh0 hb

/-- Rebase: the object and the error. -/
def RebaseIs (w : World) (o : Ob) (m : Nat) (e : Ending) (w' : World) : Prop := Ext w w' ∧
  ((obCheck o ≠ 0 ∧ e = .returned (.tuple #[.agg #[.int .u32 0, .slice none 0 0, .slice none 0 0, .slice none 0 0], .int .i64 (obCheck o)])) ∨
   (obCheck o = 0 ∧ obCheck (moveOb o m) ≠ 0 ∧ e = .returned (.tuple #[.agg #[.int .u32 0, .slice none 0 0, .slice none 0 0, .slice none 0 0], .int .i64 (obCheck (moveOb o m))])) ∨
   (obCheck o = 0 ∧ obCheck (moveOb o m) = 0 ∧ ∃ A1 A2 A3 c1 c2 c3, e = .returned (.tuple #[.agg #[.int .u32 (moveOb o m).entry, .slice A1 o.secs.length c1, .slice A2 o.syms.length c2, .slice A3 o.rels.length c3], .int .i64 0]) ∧
      Sl secR w' All (.slice A1 o.secs.length c1) (moveOb o m).secs ∧ Sl symR w' All (.slice A2 o.syms.length c2) (moveOb o m).syms ∧ Sl relR w' All (.slice A3 o.rels.length c3) (moveOb o m).rels))

set_option maxRecDepth 100000 in
set_option maxHeartbeats 8000000 in
theorem rlrebase_any (w : World) (o : Ob) (As Ay Ar : Option Addr) (ns cs ny cy nr cr : Nat) (hs : Sl secR w All (.slice As ns cs) o.secs) (hy : Sl symR w All (.slice Ay ny cy) o.syms) (hr : Sl relR w All (.slice Ar nr cr) o.rels) (m : Nat) :
    Calls Try.prog 24 #[.agg #[.int .u32 o.entry, .slice As ns cs, .slice Ay ny cy, .slice Ar nr cr], .int .u32 m] w (RebaseIs w o m) := by
  have HLS := hid hs.len
  have HLY := hid hy.len
  have HLR := hid hr.len
  obtain ⟨q, hq⟩ : ∃ q, obCheck o = q := ⟨_, rfl⟩
  have HQ := hid hq
  obtain ⟨W0, hW0⟩ : ∃ W0, (w.alloc (.cells #[.int .u32 o.entry, .slice As ns cs, .slice Ay ny cy, .slice Ar nr cr] 27)).alloc (.cells #[.int .u32 0, .slice none 0 0, .slice none 0 0, .slice none 0 0] 27) = W0 := ⟨_, rfl⟩
  have hE0 : Ext w W0 := by rw [← hW0]; exact ((Ext.refl w).alloc _).alloc _
  have hB0 : Box4 W0 w.heap.size (.int .u32 o.entry) (.slice As ns cs) (.slice Ay ny cy) (.slice Ar nr cr) := by
    rw [← hW0]
    exact (Box4.new w _ _ _ _ _).ext ((Ext.refl _).alloc _)
  have hR0 : Box4 W0 (w.heap.size + 1) (.int .u32 0) (.slice none 0 0) (.slice none 0 0) (.slice none 0 0) := by
    rw [← hW0]
    have := Box4.new (w.alloc (.cells #[.int .u32 o.entry, .slice As ns cs, .slice Ay ny cy, .slice Ar nr cr] 27)) (.int .u32 0) (.slice none 0 0) (.slice none 0 0) (.slice none 0 0) 27
    rw [World.size_alloc] at this
    exact this
  have HB0 := hid hB0
  have HR0 := hid hR0
  have HE0 := hid hE0
  have HS := hid (hs.ext hE0)
  have HY := hid (hy.ext hE0)
  have HR := hid (hr.ext hE0)
  have hck := rlcheck_any W0 o As Ay Ar ns cs ny cy nr cr HS.out HY.out HR.out
  have HCK := hid hck
  have hlt := hR0.lt
  obtain ⟨b0, b1, b2, b3, -⟩ := HB0.out
  clear hq hE0 hB0 hR0 hs hy hr hck
  go_enter Try.func24, Try.ntmps24
  go_wp2_with fail
  clear hW0 b0 b1 b2 b3
  refine (HCK.out).mono ?_
  rintro e w1 ⟨rfl, hx1⟩
  rw [HQ.out]
  have HX1 := hid hx1
  clear hx1
  by_cases h1 : q = 0
  case neg =>
    have n1 : ((q : Int) != 0) = true := by simpa using h1
    have H1 := hid h1
    obtain ⟨r0, r1, r2, r3, rf⟩ := HR0.out.ext HX1.out
    clear h1
    go_wp2
    refine bodyPost_ret (v := .tuple #[.agg #[.int .u32 0, .slice none 0 0, .slice none 0 0, .slice none 0 0], .int .i64 q]) (by simp [results, Try.results24, go_sem, World.cell?_setCell_same, World.cell?_setCell_other, r0, r1, r2, r3]) rfl ?_
    refine ⟨?_, .inl ⟨by rw [HQ.out]; exact H1.out, by rw [HQ.out]⟩⟩
    exact ((((HE0.out.trans HX1.out).setCell (by simp) _).setCell (by simp) _).setCell (by simp) _).setCell (by simp) _
  subst h1
  obtain ⟨b0, b1, b2, b3, bf⟩ := HB0.out.ext HX1.out
  obtain ⟨z1, z2, z3, z4⟩ := ob_smallN HQ.out
  have HZ2 := hid z2
  go_wp2_with fail
  refine (rlown_any w1 o As Ay Ar ns cs ny cy nr cr (HS.out.ext HX1.out) (HY.out.ext HX1.out) (HR.out.ext HX1.out) (by have := HLS.out; omega) HZ2.out (by have := HLY.out; omega) (by have := HLR.out; omega)).mono ?_
  rintro e w2 ⟨A1, A2, A3, c1, c2, c3, H, t1, t2, rfl, hx2, hsx, ho2, htop, hr3, ht12, ht2, ht1⟩
  have HX2 := hid hx2
  have HTOP := hid htop
  obtain ⟨en', hen'⟩ : ∃ en', w32 ((o.entry : Int) + m) = en' := ⟨_, rfl⟩
  have HEN := hid hen'
  have e1 : IntKind.u32.wrap ((o.entry : Int) + m) = (en' : Int) := by rw [wrap_w32, hen']
  have hob := Box4.new w2 (.int .u32 o.entry) (.slice A1 o.secs.length c1) (.slice A2 o.syms.length c2) (.slice A3 o.rels.length c3) 27
  obtain ⟨W3, hW3⟩ : ∃ W3, w2.alloc (.cells #[.int .u32 o.entry, .slice A1 o.secs.length c1, .slice A2 o.syms.length c2, .slice A3 o.rels.length c3] 27) = W3 := ⟨_, rfl⟩
  rw [hW3] at hob
  have hE3 : Ext w2 W3 := by rw [← hW3]; exact (Ext.refl w2).alloc _
  obtain ⟨ob, hobe⟩ : ∃ ob, w2.heap.size = ob := ⟨_, rfl⟩
  have hnum : w.heap.size + 1 < t1 ∧ t1 ≤ t2 ∧ t2 ≤ ob ∧ w.heap.size + 1 < w1.heap.size ∧ w1.heap.size ≤ t1 := by
    have := HX1.out.size
    omega
  have HNUM := hid hnum
  rw [hobe] at hob
  obtain ⟨q0, q1, q2, q3, qf⟩ := hob
  have HOB : Hid (Box4 W3 ob (.int .u32 o.entry) (.slice A1 o.secs.length c1) (.slice A2 o.syms.length c2) (.slice A3 o.rels.length c3)) := hid ⟨q0, q1, q2, q3, qf⟩
  have HSX := hid (hsx.ext hE3)
  have HO2 := hid (ho2.ext hE3)
  have HR3 := hid ((hr3.mono (S' := fun b => t2 ≤ b ∧ b < ob) (fun b hb hi => ⟨hb, by have := hi.lt; omega⟩)).ext hE3)
  have HX3 := hid (HE0.out.trans (HX1.out.trans (HX2.out.trans hE3)))
  have HRX := hid (HR0.out.ext (HX1.out.trans (HX2.out.trans hE3)))
  have hco := hsx.own.sl.cap
  have hcy := ho2.sl.cap
  obtain ⟨W4, hW4⟩ : ∃ W4, W3.setCell ⟨ob, 0, none⟩ (.int .u32 en') = W4 := ⟨_, rfl⟩
  have hOB4 := HOB.out.put0 (.int .u32 en')
  have hSX4 := HSX.out.far (p := ⟨ob, 0, none⟩) (u := .int .u32 en') (.inl (by show t1 ≤ ob; omega))
  have hO4 := HO2.out.set_far (p := ⟨ob, 0, none⟩) (u := .int .u32 en') (fun e => by have := HTOP.out _ e; have : ob < t2 := this; omega) (fun _ h => h.elim)
  have HOBR := hid (HX3.out.setCell (p := ⟨ob, 0, none⟩) (by show w.heap.size ≤ ob; omega) (.int .u32 en'))
  have hRX4 := HRX.out.far (p := ⟨ob, 0, none⟩) (u := .int .u32 en') (by show ob ≠ w.heap.size + 1; omega)
  have hR4 := HR3.out.keep (w' := W3.setCell ⟨ob, 0, none⟩ (.int .u32 en')) (fun b hb _ => Below.heap_setCell _ _ _ b (by show b ≠ ob; omega))
  rw [hW4] at hOB4 hSX4 hO4 HOBR hRX4 hR4
  obtain ⟨s0, s1, s2, s3, sf⟩ := hOB4
  have HOB4 : Hid (Box4 W4 ob (.int .u32 en') (.slice A1 o.secs.length c1) (.slice A2 o.syms.length c2) (.slice A3 o.rels.length c3)) := hid ⟨s0, s1, s2, s3, sf⟩
  have HSX4 := hid hSX4
  have HO4 := hid hO4
  have HR4 := hid hR4
  have HRX4 := hid hRX4
  clear hx2 hsx ho2 htop hr3 ht12 ht2 ht1 hen' hE3 hnum hSX4 hO4 hR4 hRX4 z1 z2 z3 z4 b0 b1 b2 b3 bf
  go_wp2
  clear hW3 hW4 hobe q0 q1 q2 q3 qf s0 s1 s2 s3 sf e1
  obtain ⟨n1, hn1⟩ : ∃ n1, o.secs.length = n1 := ⟨_, rfl⟩
  obtain ⟨n2, hn2⟩ : ∃ n2, o.syms.length = n2 := ⟨_, rfl⟩
  rw [hn1] at HOB4 HSX4 hco ⊢
  rw [hn2] at HOB4 HO4 hcy HTOP ⊢
  have HN1 := hid hn1
  have HN2 := hid hn2
  clear hn1 hn2
  go_loopw [27] (fun i wr => ∃ k : Nat, k ≤ n1 ∧ i = .int .i64 k ∧ Hid (SecsX wr w1.heap.size t1 46 5 (.slice A1 n1 c1) (mapTo (movH m) k H) (mapTo (movS m) k o.secs)) ∧ Hid (OwnS symR wr t1 68 (fun _ => False) (.slice A2 n2 c2) o.syms) ∧ Hid (Sl relR wr (fun b => t2 ≤ b ∧ b < ob) (.slice A3 o.rels.length c3) o.rels) ∧ Hid (Box4 wr ob (.int .u32 en') (.slice A1 n1 c1) (.slice A2 n2 c2) (.slice A3 o.rels.length c3)) ∧ Hid (Box4 wr (w.heap.size + 1) (.int .u32 0) (.slice none 0 0) (.slice none 0 0) (.slice none 0 0)) ∧ Hid (Ext w wr)) (fun i _ => n1 - (intOf i).toNat)
  case atStart => exact ⟨0, by omega, rfl, hid (by rw [mapTo_zero, mapTo_zero]; exact HSX4.out), HO4, HR4, HOB4, HRX4, HOBR⟩
  case round =>
    obtain ⟨k, hk, rfl, HI, HO, HRL, HBX, HRX, HX⟩ := hrel
    obtain ⟨s0, s1, s2, s3, sf⟩ := HBX.out
    by_cases h1 : k < n1
    · obtain ⟨s, hs⟩ : ∃ s, o.secs[k]? = some s := ⟨_, List.getElem?_eq_getElem (by have := HN1.out; omega)⟩
      obtain ⟨h, hh⟩ : ∃ h, H[k]? = some h := ⟨_, List.getElem?_eq_getElem (by have := HN1.out; have := HSX4.out.len; rw [← mapTo_zero (movH m) H] at this; simp [mapTo_len, mapTo_zero] at this; omega)⟩
      have hh2 := mapTo_at (f := movH m) hh
      have hs2 := mapTo_at (f := movS m) hs
      obtain ⟨g, rfl, hgb⟩ := HI.out.own.at0 (by omega)
      have had := (HI.out.of k h s hh2 hs2).2.1
      obtain ⟨m1, f1⟩ := hdrP.cell HI.out.own hh2 (i := 1) rfl
      rw [show k * hdrR.size + 1 = k * 5 + 1 from rfl] at m1 f1
      obtain ⟨a, ha⟩ : ∃ a, w32 ((h.addr : Int) + m) = a := ⟨_, rfl⟩
      have e1 : IntKind.u32.wrap ((h.addr : Int) + m) = (a : Int) := by rw [wrap_w32, ha]
      have hal : a < 4294967296 := by rw [← ha]; exact w32_lt _
      have hstep := SecsX.addr HI.out hh2 hs2 a hal
      have eH : (mapTo (movH m) k H).set k { h with addr := a } = mapTo (movH m) (k + 1) H := by rw [← mapTo_step hh, movH, ha]
      have eS : (mapTo (movS m) k o.secs).set k { s with addr := a } = mapTo (movS m) (k + 1) o.secs := by rw [← mapTo_step hs, movS, ← had, ha]
      rw [eH, eS] at hstep
      have hgt : g < t1 := HI.out.topv g rfl
      have hn := HNUM.out
      have HSTEP := hid hstep
      have HO5 := hid (HO.out.set_far (p := ⟨g, k * 5 + 1, none⟩) (u := .int .u32 a) (fun e => by have := (HO.out.block _ e).1; have : t1 ≤ g := this; omega) (fun _ h => h.elim))
      have HR5 := hid (HRL.out.keep (w' := wr.setCell ⟨g, k * 5 + 1, none⟩ (.int .u32 a)) (fun b hb _ => Below.heap_setCell _ _ _ b (by show b ≠ g; omega)))
      have HB5 := hid (HBX.out.far (p := ⟨g, k * 5 + 1, none⟩) (u := .int .u32 a) (by show g ≠ ob; omega))
      have HRX5 := hid (HRX.out.far (p := ⟨g, k * 5 + 1, none⟩) (u := .int .u32 a) (by have := HI.out.own.block g rfl; show g ≠ w.heap.size + 1; omega))
      have HX5 := hid (HX.out.setCell (p := ⟨g, k * 5 + 1, none⟩) (by have := HI.out.own.block g rfl; show w.heap.size ≤ g; omega) (.int .u32 a))
      clear hs hh hh2 hs2 had ha hal hstep eH eS hgt hn hgb
      go_wp2
      first
        | go_roundw
        | refine ⟨?rel, ?measure⟩
      case rel => exact ⟨k + 1, by omega, by go_num, HSTEP, HO5, HR5, HB5, HRX5, HX5⟩
      case measure => simp [intOf]; omega
    · obtain rfl : k = n1 := by omega
      have hall := HI.out
      rw [mapTo_all _ (by have := HI.out.len; simp only [mapTo_len] at this; have := HN1.out; omega), mapTo_all _ (by have := HN1.out; omega)] at hall
      have HALL := hid hall
      clear hall
      obtain ⟨V, hV⟩ : ∃ V, V = wr := ⟨_, rfl⟩
      obtain rfl := hV
      go_wp2
      clear s0 s1 s2 s3 sf
      go_loopw [44] (fun i wr => ∃ j : Nat, j ≤ n2 ∧ i = .int .i64 j ∧ Hid (SecsX wr w1.heap.size t1 46 5 (.slice A1 k c1) (H.map (movH m)) (o.secs.map (movS m))) ∧ Hid (OwnS symR wr t1 68 (fun _ => False) (.slice A2 n2 c2) (mapTo (movY m) j o.syms)) ∧ Hid (Sl relR wr (fun b => t2 ≤ b ∧ b < ob) (.slice A3 o.rels.length c3) o.rels) ∧ Hid (Box4 wr ob (.int .u32 en') (.slice A1 k c1) (.slice A2 n2 c2) (.slice A3 o.rels.length c3)) ∧ Hid (Box4 wr (w.heap.size + 1) (.int .u32 0) (.slice none 0 0) (.slice none 0 0) (.slice none 0 0)) ∧ Hid (Ext w wr)) (fun i _ => n2 - (intOf i).toNat)
      case atStart => exact ⟨0, by omega, rfl, HALL, hid (by rw [mapTo_zero]; exact HO.out), HRL, HBX, HRX, HX⟩
      case round =>
        obtain ⟨j, hj, rfl, HI2, HO2, HRL2, HBX2, HRX2, HX2⟩ := hrel
        obtain ⟨s0, s1, s2, s3, sf⟩ := HBX2.out
        by_cases h2 : j < n2
        · obtain ⟨s, hs⟩ : ∃ s, o.syms[j]? = some s := ⟨_, List.getElem?_eq_getElem (by have := HN2.out; omega)⟩
          have hs2 := mapTo_at (f := movY m) hs
          obtain ⟨g, rfl, hgb⟩ := HO2.out.at0 (by omega)
          obtain ⟨m1, f1⟩ := symP.cell HO2.out hs2 (i := 1) rfl
          rw [show j * symR.size + 1 = j * 3 + 1 from rfl] at m1 f1
          obtain ⟨a, ha⟩ : ∃ a, w32 ((s.addr : Int) + m) = a := ⟨_, rfl⟩
          have e1 : IntKind.u32.wrap ((s.addr : Int) + m) = (a : Int) := by rw [wrap_w32, ha]
          have hal : a < 4294967296 := by rw [← ha]; exact w32_lt _
          have hok := symP.own_ok HO2.out s (List.mem_of_getElem? hs2)
          have hstep := symP.set (y := { s with addr := a }) HO2.out hs2 (i := 1) (u := .int .u32 a) (by simp [symR]) rfl ⟨hal, hok.2⟩
          have eS : (mapTo (movY m) j o.syms).set j { s with addr := a } = mapTo (movY m) (j + 1) o.syms := by rw [← mapTo_step hs, movY, ha]
          rw [eS] at hstep
          have hgt : g < t2 := HTOP.out g rfl
          have hn := HNUM.out
          have HSTEP := hid hstep
          have HI5 := hid (HI2.out.far (p := ⟨g, j * 3 + 1, none⟩) (u := .int .u32 a) (.inl hgb.1))
          have HR5 := hid (HRL2.out.keep (w' := wr.setCell ⟨g, j * 3 + 1, none⟩ (.int .u32 a)) (fun b hb _ => Below.heap_setCell _ _ _ b (by show b ≠ g; omega)))
          have HB5 := hid (HBX2.out.far (p := ⟨g, j * 3 + 1, none⟩) (u := .int .u32 a) (by show g ≠ ob; omega))
          have HRX5 := hid (HRX2.out.far (p := ⟨g, j * 3 + 1, none⟩) (u := .int .u32 a) (by show g ≠ w.heap.size + 1; omega))
          have HX5 := hid (HX2.out.setCell (p := ⟨g, j * 3 + 1, none⟩) (by show w.heap.size ≤ g; omega) (.int .u32 a))
          clear hs hs2 ha hal hok hstep eS hgt hn hgb
          go_wp2
          first
            | go_roundw
            | refine ⟨?rel, ?measure⟩
          case rel => exact ⟨j + 1, by omega, by go_num, HI5, HSTEP, HR5, HB5, HRX5, HX5⟩
          case measure => simp [intOf]; omega
        · obtain rfl : j = n2 := by omega
          have hO3 := HO2.out
          rw [mapTo_all _ (by have := HN2.out; omega)] at hO3
          have HO3 := hid hO3
          have HSF := hid (HI2.out.sl (S := All) (fun _ _ => trivial))
          have HYF := hid hO3.sl
          have HRF := hid HRL2.out.all
          obtain ⟨z, hz⟩ : ∃ z, obCheck (moveOb o m) = z := ⟨_, rfl⟩
          have hck := rlcheck_any wr (moveOb o m) A1 A2 A3 k c1 j c2 o.rels.length c3 HSF.out HYF.out HRF.out
          have hme : (moveOb o m).entry = en' := HEN.out
          rw [hz, hme] at hck
          have HCK := hid hck
          have HZ := hid hz
          have HME := hid hme
          clear hO3 hck hz hme
          go_wp2_with fail
          clear s0 s1 s2 s3 sf
          refine (HCK.out).mono ?_
          rintro e w5 ⟨rfl, hx5⟩
          have HX5 := hid (HX2.out.trans hx5)
          have HXX := hid hx5
          obtain ⟨s0, s1, s2, s3, sf⟩ := HBX2.out.ext hx5
          obtain ⟨r0, r1, r2, r3, rf⟩ := HRX2.out.ext hx5
          have hn := HNUM.out
          have hne1 : w.heap.size + 1 ≠ ob := by omega
          have hne2 : ob ≠ w.heap.size + 1 := by omega
          clear hx5
          by_cases h3 : z = 0
          case neg =>
            have n1 : ((z : Int) != 0) = true := by simpa using h3
            have H3 := hid h3
            clear h3
            go_wp2
            refine bodyPost_ret (v := .tuple #[.agg #[.int .u32 0, .slice none 0 0, .slice none 0 0, .slice none 0 0], .int .i64 z]) (by simp [results, Try.results24, go_sem, World.cell?_setCell_same, World.cell?_setCell_other, r0, r1, r2, r3]) rfl ?_
            refine ⟨?_, .inr (.inl ⟨HQ.out, by rw [HZ.out]; exact H3.out, by rw [HZ.out]⟩)⟩
            exact (((HX5.out.setCell (by simp) _).setCell (by simp) _).setCell (by simp) _).setCell (by simp) _
          subst h3
          go_wp2
          refine bodyPost_ret (v := .tuple #[.agg #[.int .u32 en', .slice A1 k c1, .slice A2 j c2, .slice A3 o.rels.length c3], .int .i64 0]) (by simp [results, Try.results24, go_sem, World.cell?_setCell_same, World.cell?_setCell_other, r0, r1, r2, r3]) rfl ?_
          refine ⟨?_, .inr (.inr ⟨HQ.out, HZ.out, A1, A2, A3, c1, c2, c3, by rw [HME.out, HN1.out, HN2.out], ?_, ?_, ?_⟩)⟩
          · exact (((HX5.out.setCell (by simp) _).setCell (by simp) _).setCell (by simp) _).setCell (by simp) _
          · rw [HN1.out]
            exact ((((((HI2.out.ext HXX.out).far (.inr (by show w.heap.size + 1 < _; omega))).far (.inr (by show w.heap.size + 1 < _; omega))).far (.inr (by show w.heap.size + 1 < _; omega))).far (.inr (by show w.heap.size + 1 < _; omega))).sl (S := All) (fun _ _ => trivial))
          · rw [HN2.out]
            have hfar : (Value.slice A2 j c2).ownBlock ≠ some (w.heap.size + 1) := fun e => by have := (HO3.out.block _ e).1; omega
            exact ((((((HO3.out.ext HXX.out).set_far hfar (fun _ h => h.elim)).set_far hfar (fun _ h => h.elim)).set_far hfar (fun _ h => h.elim)).set_far hfar (fun _ h => h.elim)).sl)
          · refine ((HRL2.out.ext HXX.out).keep fun b hb _ => ?_).all
            rw [Below.heap_setCell _ _ _ _ (by simp; omega), Below.heap_setCell _ _ _ _ (by simp; omega), Below.heap_setCell _ _ _ _ (by simp; omega), Below.heap_setCell _ _ _ _ (by simp; omega)]
end Go.Proofs.Ytnlofhbimfcejaa
