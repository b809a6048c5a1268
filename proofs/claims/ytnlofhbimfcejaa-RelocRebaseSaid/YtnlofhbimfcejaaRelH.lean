/- reloc: each, Apply. -/
import Derived.Test.YtnlofhbimfcejaaRelG
import Derived.Laws.EntriesVeiled
namespace Go.Proofs.Ytnlofhbimfcejaa
open Go.RowKit Go.Deco
set_option linter.unusedSimpArgs false
set_option linter.unusedVariables false

/-- A section but for its bytes. -/
def secKey (s : Sec) : ByteArray × Nat × Nat × Bool × Bool := (s.name, s.addr, s.data.length, s.wr, s.ex)
theorem set_same {E F : Type} (f : E → F) : ∀ {l : List E} {k : Nat} {x y : E}, l[k]? = some x → f y = f x → (l.set k y).map f = l.map f
  | [], _, _, _, h, _ => by simp at h
  | z :: l, 0, x, y, h, e => by
    simp at h
    subst h
    simp [e]
  | z :: l, k + 1, x, y, h, e => by
    simp only [List.set_cons_succ, List.map_cons]
    rw [set_same f (by simpa using h) e]
theorem shape_at {L L' : List Sec} (h : L'.map secKey = L.map secKey) {k : Nat} {s : Sec} (hs : L[k]? = some s) : ∃ s', L'[k]? = some s' ∧ secKey s' = secKey s := by
  have e : (L'.map secKey)[k]? = (L.map secKey)[k]? := by rw [h]
  rw [List.getElem?_map, List.getElem?_map, hs] at e
  cases h' : L'[k]? with
  | none => rw [h'] at e; cases e
  | some s' =>
    rw [h'] at e
    injection e with e
    exact ⟨s', rfl, e⟩
theorem shape_none {L L' : List Sec} (h : L'.map secKey = L.map secKey) {k : Nat} (hs : L[k]? = none) : L'[k]? = none := by
  have e : (L'.map secKey)[k]? = (L.map secKey)[k]? := by rw [h]
  rw [List.getElem?_map, List.getElem?_map, hs] at e
  cases h' : L'[k]? with
  | none => rfl
  | some s' => rw [h'] at e; cases e
theorem key_len {s s' : Sec} (h : secKey s' = secKey s) : s'.data.length = s.data.length := by
  simp only [secKey, Prod.mk.injEq] at h
  exact h.2.2.1
theorem relOne_shape {L L' : List Sec} {syms : List Sy} (h : L'.map secKey = L.map secKey) (r : Rl) : relOne L' syms r = relOne L syms r := by
  unfold relOne
  split
  · rfl
  · cases hs : L[r.sec.toNat]? with
    | none => rw [shape_none h hs]
    | some s =>
      obtain ⟨s', hs', e⟩ := shape_at h hs
      rw [hs']
      simp only
      rw [key_len e]
theorem patch_shape {L : List Sec} {syms : List Sy} {r : Rl} (h : relOne L syms r = 0) : (patchS syms L r).map secKey = L.map secKey := by
  obtain ⟨k, s, f, t, h1, h2, h3, h4, -, -⟩ := relOne_zero h
  unfold patchS
  rw [h1, Int.toNat_natCast, h2]
  simp only
  refine set_same secKey h2 ?_
  simp only [secKey, h3, Int.toNat_natCast]
  rw [put4_len h4]
theorem fold_shape {syms : List Sy} : ∀ (l : List Rl) {L : List Sec}, (∀ r ∈ l, relOne L syms r = 0) → (l.foldl (patchS syms) L).map secKey = L.map secKey
  | [], _, _ => rfl
  | r :: l, L, h => by
    rw [List.foldl_cons]
    have h1 := patch_shape (h r (by simp))
    rw [fold_shape l fun x hx => by rw [relOne_shape h1]; exact h x (by simp [hx])]
    exact h1

set_option maxRecDepth 100000 in
set_option maxHeartbeats 4000000 in
theorem each_any (w0 w : World) (base hi pb en : Nat) (A1 : Option Addr) (n1 c1 : Nat) (A2 : Option Addr) (n2 c2 : Nat) (v3 : Value) (H : List Hd) (L : List Sec) (syms : List Sy)
    (hst : PatS w0 w base hi pb en A1 n1 c1 A2 n2 c2 v3 H L syms) (Ar : Option Addr) (nr cr : Nat) (rels : List Rl) (hr : Sl relR w0 All (.slice Ar nr cr) rels) (hv : ∀ r ∈ rels, relOne L syms r = 0) (hsl : ∀ s ∈ L, s.data.length ≤ 65536) :
    Calls Try.prog 40 #[.slice Ar nr cr, .func (.func 41) #[.pointer (some ⟨pb, 0, none⟩)] #[]] w
      (fun e w' => e = .returned (.tuple #[]) ∧ PatS w0 w' base hi pb en A1 n1 c1 A2 n2 c2 v3 H (rels.foldl (patchS syms) L) syms) := by
  have HST := hid hst
  have HR := hid hr
  have HLN := hid hr.len
  have hcap := hr.cap
  have HV := hid hv
  have HSL := hid hsl
  obtain ⟨LF, hLF⟩ : ∃ LF, rels.foldl (patchS syms) L = LF := ⟨_, rfl⟩
  rw [hLF]
  have HLF := hid hLF
  clear hst hr hv hsl hLF
  go_enter Try.func40, Try.ntmps40
  go_wp2
  go_loopw [8] (fun i wr => ∃ (k : Nat), k ≤ nr ∧ i = .int .i64 k ∧ Hid (PatS w0 wr base hi pb en A1 n1 c1 A2 n2 c2 v3 H ((rels.take k).foldl (patchS syms) L) syms)) (fun i _ => nr - (intOf i).toNat)
  case atStart => exact ⟨0, by omega, rfl, HST⟩
  case round =>
    obtain ⟨k, hk, rfl, HP⟩ := hrel
    by_cases h1 : k < nr
    · obtain ⟨r, hkr⟩ : ∃ r, rels[k]? = some r := ⟨_, List.getElem?_eq_getElem (by have := HLN.out; omega)⟩
      obtain ⟨b, off, rfl, -, e0, e1, e2, e3, e4⟩ := Sl.rel_at (HR.out.ext HP.out.ext) hkr
      have hshape : ((rels.take k).foldl (patchS syms) L).map secKey = L.map secKey := fold_shape _ fun x hx => HV.out x (List.mem_of_mem_take hx)
      have hok := HV.out r (List.mem_of_getElem? hkr)
      have hall : ∀ s' ∈ (rels.take k).foldl (patchS syms) L, s'.data.length ≤ 65536 := fun s' hs' => by
        obtain ⟨j, hj, e⟩ := List.getElem_of_mem hs'
        have hlen := congrArg List.length hshape
        simp only [List.length_map] at hlen
        obtain ⟨s, hs⟩ : ∃ s, L[j]? = some s := ⟨_, List.getElem?_eq_getElem (by omega)⟩
        obtain ⟨s2, hs2, e2⟩ := shape_at hshape hs
        rw [List.getElem?_eq_getElem hj, e] at hs2
        cases hs2
        rw [key_len e2]
        exact HSL.out s (List.mem_of_getElem? hs)
      rw [← relOne_shape hshape] at hok
      have hsn : (rels.take (k + 1)).foldl (patchS syms) L = patchS syms ((rels.take k).foldl (patchS syms) L) r := by
        rw [take_snoc' hkr, List.foldl_append]
        rfl
      have HSN := hid hsn
      obtain ⟨LK, hLK⟩ : ∃ LK, (rels.take k).foldl (patchS syms) L = LK := ⟨_, rfl⟩
      rw [hLK] at HP HSN hok hall
      clear hLK hshape hsn hkr
      obtain ⟨kk, s, f, t, q1, q2, q3, q4, q5, -⟩ := relOne_zero hok
      have q6 := hall s (List.mem_of_getElem? q2)
      have hcall := fun (W : World) (hE : Ext wr W) => patch_any w0 W base hi pb en A1 n1 c1 A2 n2 c2 v3 H LK syms (HP.out.more hE) r kk f s t q1 q2 q3 q4 q6 q5
      have HC := hid hcall
      clear hok hall q1 q2 q3 q4 q5 q6 hcall
      obtain ⟨sec, of_, kd, sym, add⟩ := r
      dsimp only at e0 e1 e2 e3 e4 HC
      go_wp2_with fail
      refine (HC.out _ ((Ext.refl wr).alloc _)).mono ?_
      rintro e w3 ⟨rfl, hp3⟩
      have HP3 := hid hp3
      clear hp3 HC e0 e1 e2 e3 e4
      go_wp2
      first
        | go_roundw
        | refine ⟨?rel, ?measure⟩
      case rel => exact ⟨k + 1, by omega, by go_num, hid (by rw [HSN.out]; exact HP3.out)⟩
      case measure => simp [intOf]; omega
    · obtain rfl : k = nr := by omega
      have hp := HP.out
      rw [List.take_of_length_le (by have := HLN.out; omega), HLF.out] at hp
      have HPF := hid hp
      clear hp
      go_wp2
      go_end0
      exact ⟨rfl, HPF.out⟩

/-- Apply: an error and an empty object, or the object applied, its sections in rows of the call's own. -/
def ApplyIs (w : World) (o : Ob) (e : Ending) (w' : World) : Prop :=
  (obCheck o ≠ 0 ∧ e = .returned (.tuple #[.agg #[.int .u32 0, .slice none 0 0, .slice none 0 0, .slice none 0 0], .int .i64 (obCheck o)]) ∧ Ext w w') ∨
  (obCheck o = 0 ∧ ∃ A1 A2 c1 c2 H hi, e = .returned (.tuple #[.agg #[.int .u32 o.entry, .slice A1 o.secs.length c1, .slice A2 o.syms.length c2, .slice none 0 0], .int .i64 0]) ∧ Ext w w' ∧
    SecsX w' w.heap.size hi 46 5 (.slice A1 o.secs.length c1) H (applyOb o).secs ∧ Sl symR w' All (.slice A2 o.syms.length c2) o.syms)
theorem ob_small {o : Ob} (h : obCheck o = 0) : o.secs.length ≤ 16 ∧ (∀ s ∈ o.secs, s.data.length ≤ 65536) ∧ o.syms.length ≤ 256 ∧ o.rels.length ≤ 256 := by
  obtain ⟨h1, h2, h3, -, -⟩ := obCheck_zero h
  refine ⟨?_, fun s hs => ?_, ?_, h3⟩
  · apply Classical.byContradiction
    intro hn
    rw [secCheck_many (by omega)] at h1
    cases h1
  · apply Classical.byContradiction
    intro hn
    obtain ⟨k, hk, rfl⟩ := List.getElem_of_mem hs
    exact secCheck_big (List.getElem?_eq_getElem hk) (by omega) h1
  · apply Classical.byContradiction
    intro hn
    rw [symCheck_many (by omega)] at h2
    cases h2

set_option maxRecDepth 100000 in
set_option maxHeartbeats 4000000 in
theorem rlapply_any (w : World) (o : Ob) (As Ay Ar : Option Addr) (ns cs ny cy nr cr : Nat) (hs : Sl secR w All (.slice As ns cs) o.secs) (hy : Sl symR w All (.slice Ay ny cy) o.syms) (hr : Sl relR w All (.slice Ar nr cr) o.rels) :
    Calls Try.prog 19 #[.agg #[.int .u32 o.entry, .slice As ns cs, .slice Ay ny cy, .slice Ar nr cr]] w (ApplyIs w o) := by
  have HLS := hid hs.len
  have HLY := hid hy.len
  have HLR := hid hr.len
  obtain ⟨q, hq⟩ : ∃ q, obCheck o = q := ⟨_, rfl⟩
  have HQ := hid hq
  obtain ⟨W0, hW0⟩ : ∃ W0, (w.alloc (.cells #[.int .u32 o.entry, .slice As ns cs, .slice Ay ny cy, .slice Ar nr cr] 27)).alloc (.cells #[.int .u32 0, .slice none 0 0, .slice none 0 0, .slice none 0 0] 27) = W0 := ⟨_, rfl⟩
  have hE0 : Ext w W0 := by rw [← hW0]; exact ((Ext.refl w).alloc _).alloc _
  have hB0 : Box4 W0 w.heap.size (.int .u32 o.entry) (.slice As ns cs) (.slice Ay ny cy) (.slice Ar nr cr) := by
    rw [← hW0]
    exact (Box4.new w _ _ _ _ _).ext ((Ext.refl _).alloc _)
  have hR0 : Box4 W0 (w.heap.size + 1) (.int .u32 0) (.slice none 0 0) (.slice none 0 0) (.slice none 0 0) := by
    rw [← hW0]
    have := Box4.new (w.alloc (.cells #[.int .u32 o.entry, .slice As ns cs, .slice Ay ny cy, .slice Ar nr cr] 27)) (.int .u32 0) (.slice none 0 0) (.slice none 0 0) (.slice none 0 0) 27
    rw [World.size_alloc] at this
    exact this
  have HB0 := hid hB0
  have HR0 := hid hR0
  have HE0 := hid hE0
  have HS := hid (hs.ext hE0)
  have HY := hid (hy.ext hE0)
  have HR := hid (hr.ext hE0)
  have hck := rlcheck_any W0 o As Ay Ar ns cs ny cy nr cr HS.out HY.out HR.out
  have HCK := hid hck
  have hlt := hR0.lt
  clear hq hE0 hB0 hR0 hs hy hr hck
  obtain ⟨b0, b1, b2, b3, bf⟩ := HB0.out
  go_enter Try.func19, Try.ntmps19
  go_wp2_with fail
  clear hW0 b0 b1 b2 b3 bf
  refine (HCK.out).mono ?_
  rintro e w1 ⟨rfl, hx1⟩
  rw [HQ.out]
  have HX1 := hid hx1
  clear hx1
  by_cases h1 : q = 0
  case neg =>
    have n1 : ((q : Int) != 0) = true := by simpa using h1
    have H1 := hid h1
    obtain ⟨r0, r1, r2, r3, rf⟩ := HR0.out.ext HX1.out
    clear h1
    go_wp2
    refine bodyPost_ret (v := .tuple #[.agg #[.int .u32 0, .slice none 0 0, .slice none 0 0, .slice none 0 0], .int .i64 q]) (by simp [results, Try.results19, go_sem, World.cell?_setCell_same, World.cell?_setCell_other, r0, r1, r2, r3]) rfl ?_
    refine .inl ⟨by rw [HQ.out]; exact H1.out, by rw [HQ.out], ?_⟩
    exact ((((HE0.out.trans HX1.out).setCell (by simp) _).setCell (by simp) _).setCell (by simp) _).setCell (by simp) _
  subst h1
  obtain ⟨b0, b1, b2, b3, bf⟩ := HB0.out.ext HX1.out
  obtain ⟨z1, z2, z3, z4⟩ := ob_small HQ.out
  have HZ2 := hid z2
  go_wp2_with fail
  refine (rlown_any w1 o As Ay Ar ns cs ny cy nr cr (HS.out.ext HX1.out) (HY.out.ext HX1.out) (HR.out.ext HX1.out) (by have := HLS.out; omega) HZ2.out (by have := HLY.out; omega) (by have := HLR.out; omega)).mono ?_
  rintro e w2 ⟨A1, A2, A3, c1, c2, c3, H, t1, t2, rfl, hx2, hsx, ho2, htop, hr3, ht12, ht2, ht1⟩
  have HX2 := hid hx2
  have HSX := hid hsx
  have HO2 := hid ho2
  have HTOP := hid htop
  have HT := hid (And.intro ht12 (And.intro ht2 ht1))
  clear hx2 hsx ho2 htop hr3 z1 z2 z3 z4 b0 b1 b2 b3 bf ht12 ht2 ht1
  have hpb := Box4.new w2 (.int .u32 o.entry) (.slice A1 o.secs.length c1) (.slice A2 o.syms.length c2) (.slice A3 o.rels.length c3) 63
  obtain ⟨W3, hW3⟩ : ∃ W3, w2.alloc (.cells #[.int .u32 o.entry, .slice A1 o.secs.length c1, .slice A2 o.syms.length c2, .slice A3 o.rels.length c3] 63) = W3 := ⟨_, rfl⟩
  rw [hW3] at hpb
  have hE3 : Ext w2 W3 := by rw [← hW3]; exact (Ext.refl w2).alloc _
  have hE03 : Ext W0 W3 := HX1.out.trans (HX2.out.trans hE3)
  have b3 := (HB0.out.ext hE03).2.2.2.1
  have HPAT : Hid (PatS W0 W3 w1.heap.size t1 w2.heap.size o.entry A1 o.secs.length c1 A2 o.syms.length c2 (.slice A3 o.rels.length c3) H o.secs o.syms) :=
    hid ⟨hE03, HSX.out.ext hE3, hpb, (symP.sl HO2.out (fun _ h => h)).ext hE3, HX1.out.size, by have := HT.out; omega⟩
  have HE03 := hid hE03
  have HV : Hid (∀ r ∈ o.rels, relOne o.secs o.syms r = 0) := hid (relsErr_each (obCheck_zero HQ.out).2.2.2.1)
  obtain ⟨pb, hpbe⟩ : ∃ pb, w2.heap.size = pb := ⟨_, rfl⟩
  have HPB := hid hpbe
  clear hpb hE3 hE03 hpbe
  go_wp2_with fail
  clear hW3 b3
  rw [HPB.out] at HPAT ⊢
  refine (each_any W0 W3 w1.heap.size t1 pb o.entry A1 o.secs.length c1 A2 o.syms.length c2 _ H o.secs o.syms HPAT.out Ar nr cr o.rels HR.out HV.out HZ2.out).mono ?_
  rintro e w4 ⟨rfl, hp4⟩
  have HP4 := hid hp4
  obtain ⟨p0, p1, p2, p3, pf⟩ := hp4.box
  obtain ⟨r0, r1, r2, r3, rf⟩ := HR0.out.ext hp4.ext
  have hpl : w.heap.size + 1 < pb := by have := HPB.out; have := HX2.out.size; have := HX1.out.size; omega
  have hne1 : w.heap.size + 1 ≠ pb := by omega
  have hne2 : pb ≠ w.heap.size + 1 := by omega
  clear hp4
  go_wp2
  refine bodyPost_ret (v := .tuple #[.agg #[.int .u32 o.entry, .slice A1 o.secs.length c1, .slice A2 o.syms.length c2, .slice none 0 0], .int .i64 0]) (by simp [results, Try.results19, go_sem, World.cell?_setCell_same, World.cell?_setCell_other, r0, r1, r2, r3, hne1, hne2]) rfl ?_
  refine .inr ⟨HQ.out, A1, A2, c1, c2, H, t1, rfl, ?_, ?_, ?_⟩
  · exact ((((((HE0.out.trans HP4.out.ext).setCell (p := ⟨pb, 3, none⟩) (by show w.heap.size ≤ pb; omega) _).setCell (by simp) _).setCell (by simp) _).setCell (by simp) _).setCell (by simp) _)
  · have hb : w.heap.size + 1 < w1.heap.size := by have := HX1.out.size; omega
    exact (((((HP4.out.secs.far (p := ⟨pb, 3, none⟩) (.inl HP4.out.high)).far (.inr (by simpa using hb))).far (.inr (by simpa using hb))).far (.inr (by simpa using hb))).far (.inr (by simpa using hb))).lower (by omega)
  · have hsy : Sl symR w4 (fun b => t1 ≤ b ∧ b < pb) (.slice A2 o.syms.length c2) o.syms := symP.slS HP4.out.syms (fun b off hA => by
      have q1 := HO2.out.block b (by rw [hA]; rfl)
      have q2 := HTOP.out b (by rw [hA]; rfl)
      have := HT.out
      have := HPB.out
      omega)
    have ht1 : w.heap.size + 1 < t1 := by have := HT.out; have := HX1.out.size; omega
    refine (hsy.keep fun b hb _ => ?_).all
    rw [Below.heap_setCell _ _ _ _ (by simp; omega), Below.heap_setCell _ _ _ _ (by simp; omega), Below.heap_setCell _ _ _ _ (by simp; omega), Below.heap_setCell _ _ _ _ (by simp; omega), Below.heap_setCell _ _ _ _ (by simp; omega)]
end Go.Proofs.Ytnlofhbimfcejaa
