/- reloc: own, with the clones that it calls. -/
import Derived.Test.YtnlofhbimfcejaaRelE
import Derived.Test.YtnlofhbimfcejaaSplit
namespace Go.Proofs.Ytnlofhbimfcejaa
open Go.RowKit Go.Deco
set_option linter.unusedSimpArgs false
set_option linter.unusedVariables false

set_option maxRecDepth 100000 in
set_option maxHeartbeats 400000 in
theorem clonesec_any (w : World) (S : Nat → Prop) (A : Option Addr) (n c : Nat) (l : List Hd) (hl : Sl hdrR w S (.slice A n c) l) (hn : n ≤ 1000000) :
    Calls Try.prog 60 #[.slice A n c] w (Cloned hdrR 46 w n l) := by
  have hz := fun (w : World) (a : Option Addr) (n c : Nat) => Lib.run_eql_slice_nil (P := Try.prog) w 23 46 a n c 0 0 Try.underlying23
  obtain ⟨i0, hi, hz0, hz1, hz2⟩ := info_parts info_secH
  have HL := hid hl; clear hl
  rcases A with _ | a
  · obtain rfl : l = [] := by
      cases l with
      | nil => rfl
      | cons y ys =>
        obtain ⟨b, off, h⟩ := HL.out.at0 (by rw [HL.out.len]; simp)
        cases h
    obtain rfl : n = 0 := HL.out.len
    go_enter Try.func60, Try.ntmps60
    go_wp2
    go_ret
    exact ⟨none, 0, rfl, OwnS.nil, Ext.refl w⟩
  · go_enter Try.func60, Try.ntmps60
    go_wp2_with (at_builtin; refine wpList_appS rfl (.tmp 5) (.tmp 6) 23 rfl w.heap.size 46 i0 _ 5 56 Try.underlying23 hi hz0 hz1 hz2 rfl hdrR rfl _ [] rfl (OwnS.fresh0 (T := All) w (Nat.le_refl _)) (some a) n c l (fun b => b < w.heap.size) rfl ((HL.out.mono (fun b _ h => h.lt)).ext ((Ext.refl w).alloc _)) (fun _ hb _ => ⟨trivial, own_ne hb⟩) (by simp; omega) (by simp; omega) (by simp) ?_; intro A' c' W' hown hg hloc; have HO := hid hown; clear hown; have HG := hid hg; clear hg; clear hloc)
    go_ret
    exact ⟨A', c', by simp, by simpa using HO.out, ((Ext.refl w).alloc _).grown HG.out (fun k hk => by rw [own_at hk]; simp)⟩
set_option maxRecDepth 100000 in
set_option maxHeartbeats 400000 in
theorem clonesym_any (w : World) (S : Nat → Prop) (A : Option Addr) (n c : Nat) (l : List Sy) (hl : Sl symR w S (.slice A n c) l) (hn : n ≤ 1000000) :
    Calls Try.prog 62 #[.slice A n c] w (Cloned symR 68 w n l) := by
  have hz := fun (w : World) (a : Option Addr) (n c : Nat) => Lib.run_eql_slice_nil (P := Try.prog) w 24 68 a n c 0 0 Try.underlying24
  obtain ⟨i0, hi, hz0, hz1, hz2⟩ := info_parts info_symH
  have HL := hid hl; clear hl
  rcases A with _ | a
  · obtain rfl : l = [] := by
      cases l with
      | nil => rfl
      | cons y ys =>
        obtain ⟨b, off, h⟩ := HL.out.at0 (by rw [HL.out.len]; simp)
        cases h
    obtain rfl : n = 0 := HL.out.len
    go_enter Try.func62, Try.ntmps62
    go_wp2
    go_ret
    exact ⟨none, 0, rfl, OwnS.nil, Ext.refl w⟩
  · go_enter Try.func62, Try.ntmps62
    go_wp2_with (at_builtin; refine wpList_appS rfl (.tmp 5) (.tmp 6) 24 rfl w.heap.size 68 i0 _ 3 32 Try.underlying24 hi hz0 hz1 hz2 rfl symR rfl _ [] rfl (OwnS.fresh0 (T := All) w (Nat.le_refl _)) (some a) n c l (fun b => b < w.heap.size) rfl ((HL.out.mono (fun b _ h => h.lt)).ext ((Ext.refl w).alloc _)) (fun _ hb _ => ⟨trivial, own_ne hb⟩) (by simp; omega) (by simp; omega) (by simp) ?_; intro A' c' W' hown hg hloc; have HO := hid hown; clear hown; have HG := hid hg; clear hg; clear hloc)
    go_ret
    exact ⟨A', c', by simp, by simpa using HO.out, ((Ext.refl w).alloc _).grown HG.out (fun k hk => by rw [own_at hk]; simp)⟩
set_option maxRecDepth 100000 in
set_option maxHeartbeats 400000 in
theorem clonerel_any (w : World) (S : Nat → Prop) (A : Option Addr) (n c : Nat) (l : List Rl) (hl : Sl relR w S (.slice A n c) l) (hn : n ≤ 1000000) :
    Calls Try.prog 63 #[.slice A n c] w (Cloned relR 36 w n l) := by
  have hz := fun (w : World) (a : Option Addr) (n c : Nat) => Lib.run_eql_slice_nil (P := Try.prog) w 25 36 a n c 0 0 Try.underlying25
  obtain ⟨i0, hi, hz0, hz1, hz2⟩ := info_parts info_rel
  have HL := hid hl; clear hl
  rcases A with _ | a
  · obtain rfl : l = [] := by
      cases l with
      | nil => rfl
      | cons y ys =>
        obtain ⟨b, off, h⟩ := HL.out.at0 (by rw [HL.out.len]; simp)
        cases h
    obtain rfl : n = 0 := HL.out.len
    go_enter Try.func63, Try.ntmps63
    go_wp2
    go_ret
    exact ⟨none, 0, rfl, OwnS.nil, Ext.refl w⟩
  · go_enter Try.func63, Try.ntmps63
    go_wp2_with (at_builtin; refine wpList_appS rfl (.tmp 5) (.tmp 6) 25 rfl w.heap.size 36 i0 _ 5 48 Try.underlying25 hi hz0 hz1 hz2 rfl relR rfl _ [] rfl (OwnS.fresh0 (T := All) w (Nat.le_refl _)) (some a) n c l (fun b => b < w.heap.size) rfl ((HL.out.mono (fun b _ h => h.lt)).ext ((Ext.refl w).alloc _)) (fun _ hb _ => ⟨trivial, own_ne hb⟩) (by simp; omega) (by simp; omega) (by simp) ?_; intro A' c' W' hown hg hloc; have HO := hid hown; clear hown; have HG := hid hg; clear hg; clear hloc)
    go_ret
    exact ⟨A', c', by simp, by simpa using HO.out, ((Ext.refl w).alloc _).grown HG.out (fun k hk => by rw [own_at hk]; simp)⟩

/-- Four cells of a box. -/
def Box4 (w : World) (b : Nat) (v0 v1 v2 v3 : Value) : Prop :=
  w.cell? ⟨b, 0, none⟩ = some v0 ∧ w.cell? ⟨b, 1, none⟩ = some v1 ∧ w.cell? ⟨b, 2, none⟩ = some v2 ∧ w.cell? ⟨b, 3, none⟩ = some v3 ∧ ∀ i, w.frozen? ⟨b, i, none⟩ = false
theorem Box4.lt {w : World} {b : Nat} {v0 v1 v2 v3 : Value} (h : Box4 w b v0 v1 v2 v3) : b < w.heap.size := World.block_lt_of_cell? _ _ h.1
theorem Box4.ext {w w' : World} {b : Nat} {v0 v1 v2 v3 : Value} (h : Box4 w b v0 v1 v2 v3) (he : Ext w w') : Box4 w' b v0 v1 v2 v3 :=
  ⟨he.cell h.1, he.cell h.2.1, he.cell h.2.2.1, he.cell h.2.2.2.1, fun i => (he.frozen (p := ⟨b, i, none⟩) h.lt).trans (h.2.2.2.2 i)⟩
theorem Box4.far {w : World} {b : Nat} {v0 v1 v2 v3 : Value} (h : Box4 w b v0 v1 v2 v3) {p : Addr} {u : Value} (hp : p.block ≠ b) : Box4 (w.setCell p u) b v0 v1 v2 v3 := by
  obtain ⟨h0, h1, h2, h3, hf⟩ := h
  have e : ∀ i v, w.cell? ⟨b, i, none⟩ = some v → (w.setCell p u).cell? ⟨b, i, none⟩ = some v := fun i v hv => by
    rw [World.cell?_of_block (w := w) (w' := w.setCell p u) (a := ⟨b, i, none⟩) (Below.heap_setCell _ _ _ b (fun e => hp e.symm))]
    exact hv
  exact ⟨e 0 _ h0, e 1 _ h1, e 2 _ h2, e 3 _ h3, fun i => by rw [World.frozen?_setCell]; exact hf i⟩
theorem Box4.put1 {w : World} {b : Nat} {v0 v1 v2 v3 : Value} (h : Box4 w b v0 v1 v2 v3) (u : Value) : Box4 (w.setCell ⟨b, 1, none⟩ u) b v0 u v2 v3 := by
  obtain ⟨h0, h1, h2, h3, hf⟩ := h
  exact ⟨by simp [World.cell?_setCell_other, h0], by simp [World.cell?_setCell_same, h1], by simp [World.cell?_setCell_other, h2], by simp [World.cell?_setCell_other, h3], fun i => by rw [World.frozen?_setCell]; exact hf i⟩
theorem Box4.put2 {w : World} {b : Nat} {v0 v1 v2 v3 : Value} (h : Box4 w b v0 v1 v2 v3) (u : Value) : Box4 (w.setCell ⟨b, 2, none⟩ u) b v0 v1 u v3 := by
  obtain ⟨h0, h1, h2, h3, hf⟩ := h
  exact ⟨by simp [World.cell?_setCell_other, h0], by simp [World.cell?_setCell_other, h1], by simp [World.cell?_setCell_same, h2], by simp [World.cell?_setCell_other, h3], fun i => by rw [World.frozen?_setCell]; exact hf i⟩
theorem Box4.put3 {w : World} {b : Nat} {v0 v1 v2 v3 : Value} (h : Box4 w b v0 v1 v2 v3) (u : Value) : Box4 (w.setCell ⟨b, 3, none⟩ u) b v0 v1 v2 u := by
  obtain ⟨h0, h1, h2, h3, hf⟩ := h
  exact ⟨by simp [World.cell?_setCell_other, h0], by simp [World.cell?_setCell_other, h1], by simp [World.cell?_setCell_other, h2], by simp [World.cell?_setCell_same, h3], fun i => by rw [World.frozen?_setCell]; exact hf i⟩
theorem Box4.put0 {w : World} {b : Nat} {v0 v1 v2 v3 : Value} (h : Box4 w b v0 v1 v2 v3) (u : Value) : Box4 (w.setCell ⟨b, 0, none⟩ u) b u v1 v2 v3 := by
  obtain ⟨h0, h1, h2, h3, hf⟩ := h
  exact ⟨by simp [World.cell?_setCell_same, h0], by simp [World.cell?_setCell_other, h1], by simp [World.cell?_setCell_other, h2], by simp [World.cell?_setCell_other, h3], fun i => by rw [World.frozen?_setCell]; exact hf i⟩
theorem Box4.new (w : World) (v0 v1 v2 v3 : Value) (t : TypeId) : Box4 (w.alloc (.cells #[v0, v1, v2, v3] t)) w.heap.size v0 v1 v2 v3 := ⟨by simp [go_sem], by simp [go_sem], by simp [go_sem], by simp [go_sem], fun i => by simp [go_sem]⟩

/-- An independent copy of an object: the rows lie one behind the other. -/
def OwnIs (w : World) (o : Ob) (e : Ending) (w' : World) : Prop :=
  ∃ (A1 A2 A3 : Option Addr) (c1 c2 c3 : Nat) (H : List Hd) (h1 h2 : Nat), e = .returned (.agg #[.int .u32 o.entry, .slice A1 o.secs.length c1, .slice A2 o.syms.length c2, .slice A3 o.rels.length c3]) ∧ Ext w w' ∧
    SecsX w' w.heap.size h1 46 5 (.slice A1 o.secs.length c1) H o.secs ∧ OwnS symR w' h1 68 (fun _ => False) (.slice A2 o.syms.length c2) o.syms ∧ (∀ b, (Value.slice A2 o.syms.length c2).ownBlock = some b → b < h2) ∧
    Sl relR w' (fun b => h2 ≤ b) (.slice A3 o.rels.length c3) o.rels ∧ h1 ≤ h2 ∧ h2 ≤ w'.heap.size ∧ w.heap.size ≤ h1

set_option maxRecDepth 100000 in
set_option maxHeartbeats 4000000 in
theorem rlown_any (w : World) (o : Ob) (As Ay Ar : Option Addr) (ns cs ny cy nr cr : Nat) (hs : Sl secR w All (.slice As ns cs) o.secs) (hy : Sl symR w All (.slice Ay ny cy) o.syms) (hr : Sl relR w All (.slice Ar nr cr) o.rels)
    (hs16 : ns ≤ 16) (hb : ∀ s ∈ o.secs, s.data.length ≤ 65536) (hy256 : ny ≤ 256) (hr256 : nr ≤ 256) :
    Calls Try.prog 39 #[.agg #[.int .u32 o.entry, .slice As ns cs, .slice Ay ny cy, .slice Ar nr cr]] w (OwnIs w o) := by
  have HLS := hid hs.len
  have HLY := hid hy.len
  have HLR := hid hr.len
  have hsc := hs.cap
  have hyc := hy.cap
  have hrc := hr.cap
  obtain ⟨en, hen⟩ : ∃ en, o.entry = en := ⟨_, rfl⟩
  rw [hen]
  have HEN := hid hen
  obtain ⟨H, hH, hHl, hHe⟩ := heads hs
  obtain ⟨W0, hW0⟩ : ∃ W0, (w.alloc (.cells #[.int .u32 en, .slice As ns cs, .slice Ay ny cy, .slice Ar nr cr] 27)).alloc (.cells #[.int .u32 0, .slice none 0 0, .slice none 0 0, .slice none 0 0] 27) = W0 := ⟨_, rfl⟩
  have hE0 : Ext w W0 := by rw [← hW0]; exact ((Ext.refl w).alloc _).alloc _
  have hsz0 : W0.heap.size = w.heap.size + 2 := by rw [← hW0]; simp
  have hB0 : Box4 W0 w.heap.size (.int .u32 en) (.slice As ns cs) (.slice Ay ny cy) (.slice Ar nr cr) := by
    rw [← hW0]
    exact (Box4.new w _ _ _ _ _).ext ((Ext.refl _).alloc _)
  have hR0 : Box4 W0 (w.heap.size + 1) (.int .u32 0) (.slice none 0 0) (.slice none 0 0) (.slice none 0 0) := by
    rw [← hW0]
    have := Box4.new (w.alloc (.cells #[.int .u32 en, .slice As ns cs, .slice Ay ny cy, .slice Ar nr cr] 27)) (.int .u32 0) (.slice none 0 0) (.slice none 0 0) (.slice none 0 0) 27
    rw [World.size_alloc] at this
    exact this
  obtain ⟨q0, q1, q2, q3, qf⟩ := hB0
  have HB0 : Hid (Box4 W0 w.heap.size (.int .u32 en) (.slice As ns cs) (.slice Ay ny cy) (.slice Ar nr cr)) := hid ⟨q0, q1, q2, q3, qf⟩
  have HR0 := hid hR0
  have HE0 := hid hE0
  have HSZ := hid hsz0
  have HH := hid (hH.ext hE0)
  have HHL := hid hHl
  have HHE := hid hHe
  have HB := hid hb
  have HY := hid hy
  have HR := hid hr
  clear hs hy hr hen hE0 hsz0 hR0 q0 q2 q3 qf hb hH hHl hHe
  go_enter Try.func39, Try.ntmps39
  go_wp2_with fail
  refine (clonesec_any W0 All As ns cs H HH.out (by omega)).mono ?_
  rintro e w1 ⟨A1, c1, rfl, ho1, hx1⟩
  have HX1 := hid hx1
  have hb1 := HB0.out.ext hx1
  obtain ⟨q0, q1, q2, q3, qf⟩ := hb1
  have HB1 : Hid (Box4 w1 w.heap.size (.int .u32 en) (.slice As ns cs) (.slice Ay ny cy) (.slice Ar nr cr)) := hid ⟨q0, q1, q2, q3, qf⟩
  have hst := CloneInv.start (w := w) (t8 := 5) ho1 HHL.out HHE.out
  rw [HSZ.out] at hst
  have HST := hid hst
  have HBP := hid (HB1.out.put1 (.slice A1 ns c1))
  have HRP := hid ((HR0.out.ext hx1).far (p := ⟨w.heap.size, 1, none⟩) (u := .slice A1 ns c1) (by simp))
  have HXP := hid ((HE0.out.trans hx1).setCell (p := ⟨w.heap.size, 1, none⟩) (Nat.le_refl _) (.slice A1 ns c1))
  have HSTP := hid (HST.out.far (p := ⟨w.heap.size, 1, none⟩) (u := .slice A1 ns c1) (by simp))
  have HC1 := hid ho1.sl.cap
  clear hW0 hx1 ho1 hst
  go_wp2
  clear q0 q1 q2 q3 qf
  go_loopw [11] (fun i wr => ∃ (k : Nat) (Hk : List Hd), k ≤ ns ∧ i = .int .i64 k ∧ Hid (CloneInv w wr (w.heap.size + 2) 46 5 (.slice A1 ns c1) k Hk o.secs) ∧ Hid (Ext w wr) ∧ Hid (Box4 wr w.heap.size (.int .u32 en) (.slice A1 ns c1) (.slice Ay ny cy) (.slice Ar nr cr)) ∧ Hid (Box4 wr (w.heap.size + 1) (.int .u32 0) (.slice none 0 0) (.slice none 0 0) (.slice none 0 0))) (fun i _ => ns - (intOf i).toNat)
  case atStart => exact ⟨0, H, by omega, rfl, HSTP, HXP, HBP, HRP⟩
  case round =>
    obtain ⟨k, Hk, hk, rfl, HI, HX, HBX, HRX⟩ := hrel
    obtain ⟨q0, q1, q2, q3, qf⟩ := HBX.out
    by_cases h1 : k < ns
    · obtain ⟨s, hs⟩ : ∃ s, o.secs[k]? = some s := ⟨_, List.getElem?_eq_getElem (by have := HLS.out; omega)⟩
      obtain ⟨h, hh⟩ : ∃ h, Hk[k]? = some h := ⟨_, List.getElem?_eq_getElem (by have := HLS.out; have := HI.out.len; omega)⟩
      obtain ⟨g, rfl, hgb⟩ := HI.out.own.at0 (by omega)
      have hhd := HI.out.of k h s hh hs
      have hdat := (HI.out.todo k h s (Nat.le_refl _) hh hs).ext HX.out
      have hsb := HB.out s (List.mem_of_getElem? hs)
      obtain ⟨hm, fm⟩ := hdrP.cell HI.out.own hh (i := 2) rfl
      rw [show k * hdrR.size + 2 = k * 5 + 2 from rfl] at hm fm
      have HS := hid hs
      have HHK := hid hh
      have hn5 := hhd.2.2.2.2
      obtain ⟨nm, ad, hA, hn, hc, wr_, ex⟩ := h
      dsimp only [Hd.dv] at hm hdat hn5
      have HDAT := hid hdat
      have i1 : (0 : Int) ≤ (k : Int) := by omega
      have i2 : (k : Int) < (ns : Int) := by omega
      have hne1 : w.heap.size ≠ g := by omega
      have hne2 : g ≠ w.heap.size := by omega
      have HN5 := hid hn5
      have HSB := hid hsb
      clear hs hh hhd hdat hgb hn5 hsb
      go_wp2_with fail
      refine wp_region_split 12 (by kernel_rfl) rfl rfl (by kernel_rfl) (fun w' => w'.cell? ⟨w.heap.size, 1, none⟩ = some (.slice (some ⟨g, 0, none⟩) ns c1) ∧ w'.cell? ⟨g, k * 5 + 2, none⟩ = some (.slice hA hn hc)) ⟨q1, hm⟩ (fun hSg1q0 => ?_)
      refine wpAnyH_takeL (i := 0) (v := ?g1qv0) rfl (by kernel_rfl) (by kernel_rfl) (by kernel_rfl) (fun _ _ _ h => h) (Or.inl ⟨by rfl, ?g1qy0⟩) (by assumption) ?g1qr0
      case g1qy0 => first | (intro w hSw; (try dsimp only at hSw); go_simp; done) | (intro w hSw; (try dsimp only at hSw); go_simp; with_reducible rfl)
      case' g1qr0 => try simp only [Act.put, List.setIfInBounds_toArray, List.set_cons_zero, List.set_cons_succ]
      refine wpAnyH_takeL (i := 1) (v := ?g1qv1) rfl (by kernel_rfl) (by kernel_rfl) (by kernel_rfl) (fun _ _ _ h => h) (Or.inl ⟨by rfl, ?g1qy1⟩) (by assumption) ?g1qr1
      case g1qy1 => first | (intro w hSw; (try dsimp only at hSw); go_simp; done) | (intro w hSw; (try dsimp only at hSw); go_simp; with_reducible rfl)
      case' g1qr1 => try simp only [Act.put, List.setIfInBounds_toArray, List.set_cons_zero, List.set_cons_succ]
      refine wpAnyH_takeL (i := 2) (v := ?g1qv2) rfl (by kernel_rfl) (by kernel_rfl) (by kernel_rfl) (fun _ _ _ h => h) (Or.inl ⟨by rfl, ?g1qy2⟩) (by assumption) ?g1qr2
      case g1qy2 => first | (intro w hSw; (try dsimp only at hSw); go_simp; done) | (intro w hSw; (try dsimp only at hSw); go_simp; with_reducible rfl)
      case' g1qr2 => try simp only [Act.put, List.setIfInBounds_toArray, List.set_cons_zero, List.set_cons_succ]
      refine wpAnyH_takeL (i := 3) (v := ?g1qv3) rfl (by kernel_rfl) (by kernel_rfl) (by kernel_rfl) (fun _ _ _ h => h) (Or.inl ⟨by rfl, ?g1qy3⟩) (by assumption) ?g1qr3
      case g1qy3 => first | (intro w hSw; (try dsimp only at hSw); go_simp; done) | (intro w hSw; (try dsimp only at hSw); go_simp; with_reducible rfl)
      case' g1qr3 => try simp only [Act.put, List.setIfInBounds_toArray, List.set_cons_zero, List.set_cons_succ]
      refine wpAnyH_takeL (i := 4) (v := ?g1qv4) rfl (by kernel_rfl) (by kernel_rfl) (by kernel_rfl) (fun _ _ _ h => h) (Or.inl ⟨by rfl, ?g1qy4⟩) (by assumption) ?g1qr4
      case g1qy4 => first | (intro w hSw; (try dsimp only at hSw); go_simp; done) | (intro w hSw; (try dsimp only at hSw); go_simp; with_reducible rfl)
      case' g1qr4 => try simp only [Act.put, List.setIfInBounds_toArray, List.set_cons_zero, List.set_cons_succ]
      refine wpAnyH_takeL (i := 5) (v := ?g1qv5) rfl (by kernel_rfl) (by kernel_rfl) (by kernel_rfl) (fun _ _ _ h => h) (Or.inl ⟨by rfl, ?g1qy5⟩) (by assumption) ?g1qr5
      case g1qy5 => first | (intro w hSw; (try dsimp only at hSw); go_simp; done) | (intro w hSw; (try dsimp only at hSw); go_simp; with_reducible rfl)
      case' g1qr5 => try simp only [Act.put, List.setIfInBounds_toArray, List.set_cons_zero, List.set_cons_succ]
      refine wpAnyH_takeL (i := 6) (v := ?g1qv6) rfl (by kernel_rfl) (by kernel_rfl) (by kernel_rfl) (fun _ _ _ h => h) (Or.inl ⟨by rfl, ?g1qy6⟩) (by assumption) ?g1qr6
      case g1qy6 => first | (intro w hSw; (try dsimp only at hSw); go_simp; done) | (intro w hSw; (try dsimp only at hSw); go_simp; with_reducible rfl)
      case' g1qr6 => try simp only [Act.put, List.setIfInBounds_toArray, List.set_cons_zero, List.set_cons_succ]
      refine wpAnyH_takeL (i := 7) (v := ?g1qv7) rfl (by kernel_rfl) (by kernel_rfl) (by kernel_rfl) (fun _ _ _ h => h) (Or.inl ⟨by rfl, ?g1qy7⟩) (by assumption) ?g1qr7
      case g1qy7 => first | (intro w hSw; (try dsimp only at hSw); go_simp; done) | (intro w hSw; (try dsimp only at hSw); go_simp; with_reducible rfl)
      case' g1qr7 => try simp only [Act.put, List.setIfInBounds_toArray, List.set_cons_zero, List.set_cons_succ]
      refine wpAnyH_takeL (i := 8) (v := ?g1qv8) rfl (by kernel_rfl) (by kernel_rfl) (by kernel_rfl) (fun _ _ _ h => h) (Or.inl ⟨by rfl, ?g1qy8⟩) (by assumption) ?g1qr8
      case g1qy8 => first | (intro w hSw; (try dsimp only at hSw); go_simp; done) | (intro w hSw; (try dsimp only at hSw); go_simp; with_reducible rfl)
      case' g1qr8 => try simp only [Act.put, List.setIfInBounds_toArray, List.set_cons_zero, List.set_cons_succ]
      refine wpAnyH_ready (rs := [9]) (by kernel_rfl) (by simp) ?_
      refine AllReadyH.consL rfl (fun K hK => ?_) AllReadyH.nil
      go_simp
      go_at_call 61
      refine (clone8_any _ All hA hn hc s.data (HDAT.out.ext (Ext.refl wr).drew) (by have := HN5.out; have := HSB.out; omega)).mono ?_
      rintro e w3 ⟨A3, c3, rfl, ho3, hx3⟩
      have HO3 := hid ho3
      have HX3 := hid ((Ext.refl wr).drew.trans hx3)
      clear ho3 hx3
      refine hK.out _ _ ⟨HX3.out.cell q1, HX3.out.cell hm⟩ (fun hSg1q1 => ?_)
      clear hK K
      try simp only [Act.put, List.setIfInBounds_toArray, List.set_cons_zero, List.set_cons_succ]
      refine wpAnyH_takeL (i := 10) (v := ?g1qv10) rfl (by kernel_rfl) (by kernel_rfl) (by kernel_rfl) (fun _ _ _ h => h) (Or.inl ⟨by rfl, ?g1qy10⟩) (by assumption) ?g1qr10
      case g1qy10 => first | (intro w hSw; (try dsimp only at hSw); go_simp; done) | (intro w hSw; (try dsimp only at hSw); go_simp; with_reducible rfl)
      case' g1qr10 => try simp only [Act.put, List.setIfInBounds_toArray, List.set_cons_zero, List.set_cons_succ]
      refine wpAnyH_takeL (i := 11) (v := ?g1qv11) rfl (by kernel_rfl) (by kernel_rfl) (by kernel_rfl) (fun _ _ _ h => h) (Or.inl ⟨by rfl, ?g1qy11⟩) (by assumption) ?g1qr11
      case g1qy11 => first | (intro w hSw; (try dsimp only at hSw); go_simp; done) | (intro w hSw; (try dsimp only at hSw); go_simp; with_reducible rfl)
      case' g1qr11 => try simp only [Act.put, List.setIfInBounds_toArray, List.set_cons_zero, List.set_cons_succ]
      refine wpAnyH_done (by kernel_rfl) ?_ _
      change wpList _ _ _ _ _ _
      have fm3 := (HX3.out.frozen (p := ⟨g, k * 5 + 2, none⟩) (World.block_lt_of_cell? _ _ hm)).trans fm
      have hm3 := HX3.out.cell hm
      have hbase : w.heap.size + 2 ≤ wr.heap.size := HI.out.own.block g rfl |> fun h => by omega
      have hstep := CloneInv.step (c' := c3) (A' := A3) HI.out HHK.out HS.out (by have := HO3.out; rw [HN5.out] at this; exact this) HX3.out hbase
      have HSTEP := hid hstep
      have HX4 := hid ((HX.out.trans HX3.out).setCell (p := ⟨g, k * 5 + 2, none⟩) (by have := HI.out.own.block g rfl; show w.heap.size ≤ g; omega) (.slice A3 hn c3))
      have HB4 := hid ((HBX.out.ext HX3.out).far (p := ⟨g, k * 5 + 2, none⟩) (u := .slice A3 hn c3) (fun e => hne1 e.symm))
      have HR4 := hid ((HRX.out.ext HX3.out).far (p := ⟨g, k * 5 + 2, none⟩) (u := .slice A3 hn c3) (by have := HI.out.own.block g rfl; show g ≠ w.heap.size + 1; omega))
      clear hm fm hstep hbase q0 q1 q2 q3 qf
      go_wp2
      first
        | go_roundw
        | refine ⟨?rel, ?measure⟩
      case rel => exact ⟨k + 1, _, by omega, by go_num, hid (by have := HSTEP.out; rw [← HN5.out] at this; exact this), HX4, HB4, HR4⟩
      case measure => simp [intOf]; omega
    · obtain rfl : k = ns := by omega
      have hsx := HI.out.all HLS.out
      have HSX := hid hsx
      have HB2 := HBX
      have HR2 := HRX
      clear hsx HI
      go_wp2_with fail
      refine (clonesym_any wr All Ay ny cy o.syms (HY.out.ext HX.out) (by omega)).mono ?_
      rintro e w2 ⟨A2, c2, rfl, ho2, hx2⟩
      have HX2 := hid hx2
      obtain ⟨q0, q1, q2, q3, qf⟩ := HBX.out.ext hx2
      have HO2 := hid ho2
      have hlt2 : w.heap.size < wr.heap.size := HBX.out.lt
      have hltr : w.heap.size + 1 < wr.heap.size := HRX.out.lt
      have HB3 := hid ((HBX.out.ext hx2).put2 (.slice A2 ny c2))
      have HR3 := hid ((HRX.out.ext hx2).far (p := ⟨w.heap.size, 2, none⟩) (u := .slice A2 ny c2) (by simp))
      have HX3 := hid ((HX.out.trans hx2).setCell (p := ⟨w.heap.size, 2, none⟩) (Nat.le_refl _) (.slice A2 ny c2))
      have HSX3 := hid ((HSX.out.ext hx2).far (p := ⟨w.heap.size, 2, none⟩) (u := .slice A2 ny c2) (.inr (by simp)))
      have HO3 := hid ((symP.anyT HO2.out (fun _ => False)).set_far (p := ⟨w.heap.size, 2, none⟩) (u := .slice A2 ny c2) (fun e => by have := HO2.out.block _ e; simp at this; omega) (fun _ h => h.elim))
      obtain ⟨W3, hW3⟩ : ∃ W3, w2.setCell ⟨w.heap.size, 2, none⟩ (.slice A2 ny c2) = W3 := ⟨_, rfl⟩
      rw [hW3] at HB3 HR3 HX3 HSX3 HO3
      have hsz3 : W3.heap.size = w2.heap.size := by rw [← hW3]; simp
      have HSZ3 := hid hsz3
      have HW3 := hid hW3
      clear hx2 ho2 hsz3 hW3
      go_wp2_with fail
      rw [HW3.out]
      clear q0 q1 q2 q3 qf
      refine (clonerel_any W3 All Ar nr cr o.rels (HR.out.ext HX3.out) (by omega)).mono ?_
      rintro e w4 ⟨A3, c3, rfl, ho4, hx4⟩
      obtain ⟨q0, q1, q2, q3, qf⟩ := HB3.out.ext hx4
      obtain ⟨r0, r1, r2, r3, rf⟩ := HR3.out.ext hx4
      have HX4 := hid hx4
      have HO4 := hid ho4
      clear hx4 ho4
      go_wp2
      refine bodyPost_ret (v := .agg #[.int .u32 en, .slice A1 k c1, .slice A2 ny c2, .slice A3 nr c3]) (by simp [results, Try.results39, go_sem, World.cell?_setCell_same, World.cell?_setCell_other, r0, r1, r2, r3]) rfl ?_
      have hs2 : wr.heap.size ≤ w2.heap.size := HX2.out.size
      have hs4 : w2.heap.size ≤ w4.heap.size := by have := HX4.out.size; have := HSZ3.out; omega
      refine ⟨A1, A2, A3, c1, c2, c3, Hk, wr.heap.size, w2.heap.size, by rw [HEN.out, ← HLS.out, ← HLY.out, ← HLR.out], ?_, ?_, ?_, fun b hb => ?_, ?_, hs2, by simpa using hs4, HX.out.size⟩
      · exact (((((HX3.out.trans HX4.out).setCell (Nat.le_refl _) _).setCell (by simp) _).setCell (by simp) _).setCell (by simp) _).setCell (by simp) _
      · rw [← HLS.out]
        exact ((((((HSX3.out.ext HX4.out).far (.inr (by simp))).far (.inr (by simp))).far (.inr (by simp))).far (.inr (by simp))).far (.inr (by simp))).lower (by omega)
      · rw [← HLY.out]
        have hfar : ∀ q, q = w.heap.size ∨ q = w.heap.size + 1 → (Value.slice A2 ny c2).ownBlock ≠ some q := fun q hq e => by
          have := (HO2.out.block q e).1
          omega
        refine (((((HO3.out.ext HX4.out).set_far (hfar _ (.inl rfl)) (fun _ h => h.elim)).set_far (hfar _ (.inr rfl)) (fun _ h => h.elim)).set_far (hfar _ (.inr rfl)) (fun _ h => h.elim)).set_far (hfar _ (.inr rfl)) (fun _ h => h.elim)).set_far (hfar _ (.inr rfl)) (fun _ h => h.elim)
      · rw [← HLY.out] at hb
        exact (HO2.out.block b hb).2
      · rw [← HLR.out]
        refine (relP.sl HO4.out (S := fun b => w2.heap.size ≤ b) (fun b hb => by have := HSZ3.out; omega)).keep fun b hb _ => ?_
        rw [Below.heap_setCell _ _ _ _ (by simp; omega), Below.heap_setCell _ _ _ _ (by simp; omega), Below.heap_setCell _ _ _ _ (by simp; omega), Below.heap_setCell _ _ _ _ (by simp; omega), Below.heap_setCell _ _ _ _ (by simp; omega)]
end Go.Proofs.Ytnlofhbimfcejaa
