/- reloc: patch, each. -/
import Derived.Test.YtnlofhbimfcejaaRelF
import Derived.Test.YtnlofhbimfcejaaCpy
namespace Go.Proofs.Ytnlofhbimfcejaa
open Go.RowKit Go.Deco
set_option linter.unusedSimpArgs false
set_option linter.unusedVariables false

/-- An object that is being patched: its box, its sections and its symbols. -/
structure PatS (w0 w : World) (base hi pb en : Nat) (A1 : Option Addr) (n1 c1 : Nat) (A2 : Option Addr) (n2 c2 : Nat) (v3 : Value) (H : List Hd) (L : List Sec) (syms : List Sy) : Prop where
  ext : Ext w0 w
  secs : SecsX w base hi 46 5 (.slice A1 n1 c1) H L
  box : Box4 w pb (.int .u32 en) (.slice A1 n1 c1) (.slice A2 n2 c2) v3
  syms : Sl symR w (fun b => hi ≤ b) (.slice A2 n2 c2) syms
  base : w0.heap.size ≤ base
  high : hi ≤ pb
namespace PatS
variable {w0 w w1 w2 : World} {base hi pb en n1 c1 n2 c2 : Nat} {A1 A2 : Option Addr} {v3 : Value} {H : List Hd} {L : List Sec} {syms : List Sy}
theorem more (x : PatS w0 w base hi pb en A1 n1 c1 A2 n2 c2 v3 H L syms) (he : Ext w w1) : PatS w0 w1 base hi pb en A1 n1 c1 A2 n2 c2 v3 H L syms :=
  ⟨x.ext.trans he, x.secs.ext he, x.box.ext he, x.syms.ext he, x.base, x.high⟩
theorem write (x : PatS w0 w base hi pb en A1 n1 c1 A2 n2 c2 v3 H L syms) {k : Nat} {h : Hd} {s : Sec} {d : List Nat} (hk : H[k]? = some h) (hs : L[k]? = some s) (hd : OwnS u8R w1 base 5 (fun _ => False) h.dv d) (hlen : d.length = s.data.length)
    (hg : w.grownBy w1 h.dv.ownBlock) : PatS w0 w1 base hi pb en A1 n1 c1 A2 n2 c2 v3 H (L.set k { s with data := d }) syms := by
  have hrow : ∀ b, h.dv.ownBlock = some b → base ≤ b ∧ b < hi := fun b hb => ⟨((x.secs.data k h s hk hs).block b hb).1, x.secs.topd k h b hk hb⟩
  have hfar : ∀ b, b < w.heap.size → (b < base ∨ hi ≤ b) → w1.heap[b]? = w.heap[b]? := fun b hb hc => hg.block b hb (fun e => by have := hrow b e.symm; omega)
  have hbox := x.box
  have hblt := hbox.lt
  have e : ∀ i v, w.cell? ⟨pb, i, none⟩ = some v → w1.cell? ⟨pb, i, none⟩ = some v := fun i v hv => by
    rw [World.cell?_of_block (w := w) (w' := w1) (a := ⟨pb, i, none⟩) (hfar pb hblt (.inr x.high))]
    exact hv
  refine ⟨x.ext.grown hg (fun b hb => by have := (hrow b hb).1; have := x.base; omega), x.secs.bytes hk hs hd hlen hg, ?_, x.syms.keep (fun b hb hi => hfar b hi.lt (.inr hb)), x.base, x.high⟩
  obtain ⟨h0, h1, h2, h3, hf⟩ := hbox
  refine ⟨e 0 _ h0, e 1 _ h1, e 2 _ h2, e 3 _ h3, fun i => ?_⟩
  have hb := hfar pb hblt (.inr x.high)
  have := hf i
  unfold World.frozen? at *
  rw [hb]
  exact this
end PatS

theorem extc2 {w w' : World} {p0 p1 : Addr} {u0 u1 : Value} (h : w.cell? p0 = some u0 ∧ w.cell? p1 = some u1) (he : Ext w w') : w'.cell? p0 = some u0 ∧ w'.cell? p1 = some u1 := ⟨he.cell h.1, he.cell h.2⟩
/-- A box for a symbol, not yet written. -/
structure ZSy (lo a : Nat) (w : World) : Prop where
  bx : SyAt w a Sy.zero
  ge : lo ≤ a
theorem ZSy.ext {lo a : Nat} {w w' : World} (h : ZSy lo a w) (he : Ext w w') : ZSy lo a w' := ⟨h.bx.ext he, h.ge⟩
theorem extAllocS {a w : World} (h : Ext a w) : ∃ wA sz, w.alloc (.cells #[.string ⟨#[]⟩, .int .u32 0, .int .i64 0] 68) = wA ∧ w.heap.size = sz ∧ Ext w wA ∧ a.heap.size ≤ sz ∧ SyAt wA sz Sy.zero :=
  ⟨_, _, rfl, rfl, (Ext.refl w).alloc _, h.size, SyAt.new w Sy.zero 68⟩

set_option maxRecDepth 100000 in
set_option maxHeartbeats 8000000 in
theorem patch_any (w0 w : World) (base hi pb en : Nat) (A1 : Option Addr) (n1 c1 : Nat) (A2 : Option Addr) (n2 c2 : Nat) (v3 : Value) (H : List Hd) (L : List Sec) (syms : List Sy)
    (hst : PatS w0 w base hi pb en A1 n1 c1 A2 n2 c2 v3 H L syms) (r : Rl) (k f : Nat) (s : Sec) (t : Sy) (hrs : r.sec = k) (hs : L[k]? = some s) (hrf : r.off = f) (hfl : f + 4 ≤ s.data.length) (hsl : s.data.length ≤ 65536) (hfs : findSy syms r.sym.data.toList = some t) :
    Calls Try.prog 41 #[.pointer (some ⟨pb, 0, none⟩), .agg #[.int .i64 r.sec, .int .i64 r.off, .int .i64 r.kind, .string r.sym, .int .i32 r.add]] w
      (fun e w' => e = .returned (.tuple #[]) ∧ PatS w0 w' base hi pb en A1 n1 c1 A2 n2 c2 v3 H (patchS syms L r) syms) := by
  obtain ⟨i8, hi8, hz80, hz81, hz82⟩ := info_parts info_u8
  have HI8 := hid hi8
  have HI81 := hid hz81
  clear hi8 hz80 hz81 hz82
  obtain ⟨L2, hL2⟩ : ∃ L2, patchS syms L r = L2 := ⟨_, rfl⟩
  rw [hL2]
  have hL3 : L2 = L.set k { s with data := put4 s.data f (relNum syms s r) } := by
    rw [← hL2, patchS, hrs, hrf]
    simp only [Int.toNat_natCast, hs]
  obtain ⟨N, hN⟩ : ∃ N, relNum syms s r = N := ⟨_, rfl⟩
  rw [hN] at hL3
  have hN2 : (relVal r (w32 (s.addr + f)) t.addr).1 = N := by rw [← hN, relNum, hfs, hrf]; rfl
  have hval := fun W => rlvalue_any W r (w32 (s.addr + f)) t.addr
  obtain ⟨er, hEr⟩ : ∃ er, (relVal r (w32 (s.addr + f)) t.addr).2 = er := ⟨_, rfl⟩
  unfold ValIs at hval
  rw [hN2, hEr] at hval
  obtain ⟨P, hP⟩ : ∃ P, w32 ((s.addr : Int) + f) = P := ⟨_, rfl⟩
  rw [hP] at hval hN2
  have e1 : IntKind.u32.wrap ((s.addr : Int) + f) = (P : Int) := by rw [wrap_w32, hP]
  obtain ⟨sec, off, kd, sym, add⟩ := r
  dsimp only at hrs hrf hfs hval ⊢
  subst hrs
  subst hrf
  have hNl : N < 4294967296 := by
    rw [← hN2, relVal]
    split
    · exact w32_lt _
    · split
      · exact w32_lt _
      · show (0 : Nat) < _; omega
  obtain ⟨h, hh⟩ : ∃ h, H[k]? = some h := ⟨_, List.getElem?_eq_getElem (by have := (List.getElem?_eq_some_iff.1 hs).1; have := hst.secs.len; omega)⟩
  obtain ⟨W0, hW0⟩ : ∃ W0, w.alloc (.cells #[.int .i64 k, .int .i64 f, .int .i64 kd, .string sym, .int .i32 add] 36) = W0 := ⟨_, rfl⟩
  have hE0 : Ext w W0 := by rw [← hW0]; exact (Ext.refl w).alloc _
  have x0 : W0.cell? ⟨w.heap.size, 0, none⟩ = some (.int .i64 k) := by rw [← hW0]; simp [go_sem]
  have x1 : W0.cell? ⟨w.heap.size, 1, none⟩ = some (.int .i64 f) := by rw [← hW0]; simp [go_sem]
  have x2 : W0.cell? ⟨w.heap.size, 2, none⟩ = some (.int .i64 kd) := by rw [← hW0]; simp [go_sem]
  have x3 : W0.cell? ⟨w.heap.size, 3, none⟩ = some (.string sym) := by rw [← hW0]; simp [go_sem]
  have x4 : W0.cell? ⟨w.heap.size, 4, none⟩ = some (.int .i32 add) := by rw [← hW0]; simp [go_sem]
  have HXC := hid (And.intro x0 (And.intro x1 (And.intro x2 (And.intro x3 x4))))
  have HP0 := hid (hst.more hE0)
  obtain ⟨p0, p1, p2, p3, pf⟩ := HP0.out.box
  obtain ⟨g, rfl, hgb⟩ := HP0.out.secs.own.at0 (by have := HP0.out.secs.own.len; have := (List.getElem?_eq_some_iff.1 hh).1; omega)
  have hown := HP0.out.secs.own
  obtain ⟨m0, -⟩ := hdrP.cell hown hh (i := 0) rfl
  obtain ⟨m1, -⟩ := hdrP.cell hown hh (i := 1) rfl
  obtain ⟨m2, -⟩ := hdrP.cell hown hh (i := 2) rfl
  obtain ⟨m3, -⟩ := hdrP.cell hown hh (i := 3) rfl
  obtain ⟨m4, -⟩ := hdrP.cell hown hh (i := 4) rfl
  rw [show k * hdrR.size + 0 = k * 5 from rfl] at m0
  rw [show k * hdrR.size + 1 = k * 5 + 1 from rfl] at m1
  rw [show k * hdrR.size + 2 = k * 5 + 2 from rfl] at m2
  rw [show k * hdrR.size + 3 = k * 5 + 3 from rfl] at m3
  rw [show k * hdrR.size + 4 = k * 5 + 4 from rfl] at m4
  have hhd := HP0.out.secs.of k h s hh hs
  have HHK := hid hh
  have HS := hid hs
  have hkn : k < n1 := by have := hown.len; have := (List.getElem?_eq_some_iff.1 hh).1; omega
  obtain ⟨nm, ad, hA, hn, hc, wr_, ex⟩ := h
  dsimp only [Hd.dv] at m0 m1 m2 m3 m4 hhd
  obtain ⟨-, rfl, -, -, rfl⟩ := hhd
  have HFS := hid hfs
  have HNL := hid hNl
  have HVAL := hid hval
  have HL3 := hid hL3
  have HN := hid hN
  have i1 : (0 : Int) ≤ (k : Int) := by omega
  have i2 : (k : Int) < (n1 : Int) := by omega
  have HST := hid hst
  have HFL := hid hfl
  have HSL := hid hsl
  clear hL2 hL3 hN hN2 hval hEr hfs hh hs hown hE0 hst p0 p3 pf x1 x2 x3 x4 hP hNl
  go_enter Try.func41, Try.ntmps41
  go_wp2_with fail
  clear hW0
  refine wp_region_split 10 (by kernel_rfl) rfl rfl (by kernel_rfl) (fun w' => w'.cell? ⟨pb, 1, none⟩ = some (.slice (some ⟨g, 0, none⟩) n1 c1) ∧ w'.cell? ⟨w.heap.size, 0, none⟩ = some (.int .i64 k) ∧ w'.cell? ⟨g, k * 5, none⟩ = some (.string nm) ∧ w'.cell? ⟨g, k * 5 + 1, none⟩ = some (.int .u32 s.addr) ∧ w'.cell? ⟨g, k * 5 + 2, none⟩ = some (.slice hA s.data.length hc) ∧ w'.cell? ⟨g, k * 5 + 3, none⟩ = some (.bool wr_) ∧ w'.cell? ⟨g, k * 5 + 4, none⟩ = some (.bool ex)) ⟨p1, x0, m0, m1, m2, m3, m4⟩ (fun hSg1q0 => ?_)
  refine wpAnyH_takeL (i := 0) (v := ?g1qv0) rfl (by kernel_rfl) (by kernel_rfl) (by kernel_rfl) (fun _ _ _ h => h) (Or.inl ⟨by rfl, ?g1qy0⟩) (by assumption) ?g1qr0
  case g1qy0 => first | (intro w hSw; (try dsimp only at hSw); go_simp; done) | (intro w hSw; (try dsimp only at hSw); go_simp; with_reducible rfl)
  case' g1qr0 => try simp only [Act.put, List.setIfInBounds_toArray, List.set_cons_zero, List.set_cons_succ]
  refine wpAnyH_takeL (i := 1) (v := ?g1qv1) rfl (by kernel_rfl) (by kernel_rfl) (by kernel_rfl) (fun _ _ _ h => h) (Or.inl ⟨by rfl, ?g1qy1⟩) (by assumption) ?g1qr1
  case g1qy1 => first | (intro w hSw; (try dsimp only at hSw); go_simp; done) | (intro w hSw; (try dsimp only at hSw); go_simp; with_reducible rfl)
  case' g1qr1 => try simp only [Act.put, List.setIfInBounds_toArray, List.set_cons_zero, List.set_cons_succ]
  refine wpAnyH_takeL (i := 2) (v := ?g1qv2) rfl (by kernel_rfl) (by kernel_rfl) (by kernel_rfl) (fun _ _ _ h => h) (Or.inl ⟨by rfl, ?g1qy2⟩) (by assumption) ?g1qr2
  case g1qy2 => first | (intro w hSw; (try dsimp only at hSw); go_simp; done) | (intro w hSw; (try dsimp only at hSw); go_simp; with_reducible rfl)
  case' g1qr2 => try simp only [Act.put, List.setIfInBounds_toArray, List.set_cons_zero, List.set_cons_succ]
  refine wpAnyH_takeL (i := 3) (v := ?g1qv3) rfl (by kernel_rfl) (by kernel_rfl) (by kernel_rfl) (fun _ _ _ h => h) (Or.inl ⟨by rfl, ?g1qy3⟩) (by assumption) ?g1qr3
  case g1qy3 => first | (intro w hSw; (try dsimp only at hSw); go_simp; done) | (intro w hSw; (try dsimp only at hSw); go_simp; with_reducible rfl)
  case' g1qr3 => try simp only [Act.put, List.setIfInBounds_toArray, List.set_cons_zero, List.set_cons_succ]
  refine wpAnyH_takeL (i := 4) (v := ?g1qv4) rfl (by kernel_rfl) (by kernel_rfl) (by kernel_rfl) (fun _ _ _ h => h) (Or.inl ⟨by rfl, ?g1qy4⟩) (by assumption) ?g1qr4
  case g1qy4 => first | (intro w hSw; (try dsimp only at hSw); go_simp; done) | (intro w hSw; (try dsimp only at hSw); go_simp; with_reducible rfl)
  case' g1qr4 => try simp only [Act.put, List.setIfInBounds_toArray, List.set_cons_zero, List.set_cons_succ]
  refine wpAnyH_takeL (i := 5) (v := ?g1qv5) rfl (by kernel_rfl) (by kernel_rfl) (by kernel_rfl) (fun _ _ _ h => h) (Or.inl ⟨by rfl, ?g1qy5⟩) (by assumption) ?g1qr5
  case g1qy5 => first | (intro w hSw; (try dsimp only at hSw); go_simp; done) | (intro w hSw; (try dsimp only at hSw); go_simp; with_reducible rfl)
  case' g1qr5 => try simp only [Act.put, List.setIfInBounds_toArray, List.set_cons_zero, List.set_cons_succ]
  refine wpAnyH_takeL (i := 6) (v := ?g1qv6) rfl (by kernel_rfl) (by kernel_rfl) (by kernel_rfl) (fun _ _ _ h => h) (Or.inl ⟨by rfl, ?g1qy6⟩) (by assumption) ?g1qr6
  case g1qy6 => first | (intro w hSw; (try dsimp only at hSw); go_simp; done) | (intro w hSw; (try dsimp only at hSw); go_simp; with_reducible rfl)
  case' g1qr6 => try simp only [Act.put, List.setIfInBounds_toArray, List.set_cons_zero, List.set_cons_succ]
  refine wpAnyH_takeL (i := 7) (v := ?g1qv7) rfl (by kernel_rfl) (by kernel_rfl) (by kernel_rfl) (fun _ _ _ h => h) (Or.inl ⟨by rfl, ?g1qy7⟩) (by assumption) ?g1qr7
  case g1qy7 => first | (intro w hSw; (try dsimp only at hSw); go_simp; done) | (intro w hSw; (try dsimp only at hSw); go_simp; with_reducible rfl)
  case' g1qr7 => try simp only [Act.put, List.setIfInBounds_toArray, List.set_cons_zero, List.set_cons_succ]
  refine wpAnyH_takeL (i := 8) (v := ?g1qv8) rfl (by kernel_rfl) (by kernel_rfl) (by kernel_rfl) (fun _ _ _ h => h) (Or.inl ⟨by rfl, ?g1qy8⟩) (by assumption) ?g1qr8
  case g1qy8 => first | (intro w hSw; (try dsimp only at hSw); go_simp; done) | (intro w hSw; (try dsimp only at hSw); go_simp; with_reducible rfl)
  case' g1qr8 => try simp only [Act.put, List.setIfInBounds_toArray, List.set_cons_zero, List.set_cons_succ]
  refine wpAnyH_ready (rs := [9]) (by kernel_rfl) (by simp) ?_
  refine AllReadyH.consL rfl (fun K hK => ?_) AllReadyH.nil
  go_simp
  have HX1 := hid ((Ext.refl W0).drew.alloc (.cells #[.string ⟨#[]⟩, .int .u32 0, .slice none 0 0, .bool false, .bool false] 46))
  refine hK.out _ _ ⟨HX1.out.cell p1, HX1.out.cell x0, HX1.out.cell m0, HX1.out.cell m1, HX1.out.cell m2, HX1.out.cell m3, HX1.out.cell m4⟩ (fun hSg1q1 => ?_)
  clear hK K
  try simp only [Act.put, List.setIfInBounds_toArray, List.set_cons_zero, List.set_cons_succ]
  refine wpAnyH_done (by kernel_rfl) ?_ _
  change wpList _ _ _ _ _ _
  go_wp2_with fail
  have hHW := hid HX1.out
  obtain ⟨W1, hW1⟩ : ∃ W1, (W0.alloc (.cells #[.string nm, .int .u32 s.addr, .slice hA s.data.length hc, .bool wr_, .bool ex] 46)).drew = W1 := ⟨_, rfl⟩
  have hE1 : Ext W0 W1 := by rw [← hW1]; exact ((Ext.refl W0).alloc _).drew
  have y1 : W1.cell? ⟨W0.heap.size, 1, none⟩ = some (.int .u32 s.addr) := by rw [← hW1]; simp [go_sem]
  have y2 : W1.cell? ⟨W0.heap.size, 2, none⟩ = some (.slice hA s.data.length hc) := by rw [← hW1]; simp [go_sem]
  rw [hW1]
  have HY := hid (And.intro y1 y2)
  have HE01 := hid hE1
  have HP1 := hid (HP0.out.more hE1)
  have p2 := hE1.cell p2
  have x3 := hE1.cell HXC.out.2.2.2.1
  have HC2 := hid (And.intro p2 x3)
  clear hW1 hE1 hHW y1 y2 x0 p1 m0 m1 m2 m3 m4 HX1
  have HXg2q_0 := hid ((Ext.refl W1).drew)
  refine wp_region_held_drew (S := (fun w' => w'.cell? ⟨pb, 2, none⟩ = some (.slice A2 n2 c2) ∧ w'.cell? ⟨w.heap.size, 3, none⟩ = some (.string sym))) (by kernel_rfl) ⟨p2, x3⟩ (fun hSg2q0 => ?_)
  refine wpAnyH_takeL (i := 0) (v := ?g2qv0x1) rfl (by kernel_rfl) (by kernel_rfl) (by kernel_rfl) (fun _ _ _ h => h) (Or.inl ⟨by rfl, ?g2qy0x1⟩) (by assumption) ?g2qr0x1
  case g2qy0x1 => first | (intro w hSw; (try dsimp only at hSw); go_simp; done) | (intro w hSw; (try dsimp only at hSw); go_simp; with_reducible rfl)
  case' g2qr0x1 => try simp only [Act.put, List.setIfInBounds_toArray, List.set_cons_zero, List.set_cons_succ]
  refine wpAnyH_takeL (i := 1) (v := ?g2qv1x2) rfl (by kernel_rfl) (by kernel_rfl) (by kernel_rfl) (fun _ _ _ h => h) (Or.inl ⟨by rfl, ?g2qy1x2⟩) (by assumption) ?g2qr1x2
  case g2qy1x2 => first | (intro w hSw; (try dsimp only at hSw); go_simp; done) | (intro w hSw; (try dsimp only at hSw); go_simp; with_reducible rfl)
  case' g2qr1x2 => try simp only [Act.put, List.setIfInBounds_toArray, List.set_cons_zero, List.set_cons_succ]
  refine wpAnyH_takeL (i := 2) (v := ?g2qv2x3) rfl (by kernel_rfl) (by kernel_rfl) (by kernel_rfl) (fun _ _ _ h => h) (Or.inl ⟨by rfl, ?g2qy2x3⟩) (by assumption) ?g2qr2x3
  case g2qy2x3 => first | (intro w hSw; (try dsimp only at hSw); go_simp; done) | (intro w hSw; (try dsimp only at hSw); go_simp; with_reducible rfl)
  case' g2qr2x3 => try simp only [Act.put, List.setIfInBounds_toArray, List.set_cons_zero, List.set_cons_succ]
  refine wpAnyH_takeL (i := 3) (v := ?g2qv3x4) rfl (by kernel_rfl) (by kernel_rfl) (by kernel_rfl) (fun _ _ _ h => h) (Or.inl ⟨by rfl, ?g2qy3x4⟩) (by assumption) ?g2qr3x4
  case g2qy3x4 => first | (intro w hSw; (try dsimp only at hSw); go_simp; done) | (intro w hSw; (try dsimp only at hSw); go_simp; with_reducible rfl)
  case' g2qr3x4 => try simp only [Act.put, List.setIfInBounds_toArray, List.set_cons_zero, List.set_cons_succ]
  refine wpAnyH_takeL (i := 4) (v := ?g2qv4x5) rfl (by kernel_rfl) (by kernel_rfl) (by kernel_rfl) (fun _ _ _ h => h) (Or.inl ⟨by rfl, ?g2qy4x5⟩) (by assumption) ?g2qr4x5
  case g2qy4x5 => first | (intro w hSw; (try dsimp only at hSw); go_simp; done) | (intro w hSw; (try dsimp only at hSw); go_simp; with_reducible rfl)
  case' g2qr4x5 => try simp only [Act.put, List.setIfInBounds_toArray, List.set_cons_zero, List.set_cons_succ]
  refine wpAnyH_takeL (i := 5) (v := ?g2qv5x6) rfl (by kernel_rfl) (by kernel_rfl) (by kernel_rfl) (fun _ _ _ h => h) (Or.inl ⟨by rfl, ?g2qy5x6⟩) (by assumption) ?g2qr5x6
  case g2qy5x6 => first | (intro w hSw; (try dsimp only at hSw); go_simp; done) | (intro w hSw; (try dsimp only at hSw); go_simp; with_reducible rfl)
  case' g2qr5x6 => try simp only [Act.put, List.setIfInBounds_toArray, List.set_cons_zero, List.set_cons_succ]
  refine wpAnyH_takeL (i := 6) (v := ?g2qv6x7) rfl (by kernel_rfl) (by kernel_rfl) (by kernel_rfl) (fun _ _ _ h => h) (Or.inl ⟨by rfl, ?g2qy6x7⟩) (by assumption) ?g2qr6x7
  case g2qy6x7 => first | (intro w hSw; (try dsimp only at hSw); go_simp; done) | (intro w hSw; (try dsimp only at hSw); go_simp; with_reducible rfl)
  case' g2qr6x7 => try simp only [Act.put, List.setIfInBounds_toArray, List.set_cons_zero, List.set_cons_succ]
  refine wpAnyH_ready (rs := [7, 11]) (by kernel_rfl) (by simp) ?_
  refine (AllReadyH.consL rfl (fun K hK => ?g2qb7x8) (AllReadyH.consL rfl (fun K hK => ?g2qb11x8) AllReadyH.nil))
  case' g2qb7x8 =>
    go_simp
    go_at_call 53
    refine (syfind_any _ A2 n2 c2 syms ((HP1.out.syms.all).ext HXg2q_0.out) sym).mono ?_
    rintro e wL ⟨hEg2q1, rfl⟩
    rw [HFS.out]
    simp only [Option.getD_some, Option.isSome_some, syVal]
    have HXg2q_1 := hid (HXg2q_0.out.trans hEg2q1)
    clear hEg2q1
    refine hK.out _ _ (extc2 HC2.out HXg2q_1.out) (fun hSg2q1 => ?_)
    clear hK K
    try simp only [Act.put, List.setIfInBounds_toArray, List.set_cons_zero, List.set_cons_succ]
    refine wpAnyH_takeL (i := 8) (v := ?g2qv8x9) rfl (by kernel_rfl) (by kernel_rfl) (by kernel_rfl) (fun _ _ _ h => h) (Or.inl ⟨by rfl, ?g2qy8x9⟩) (by assumption) ?g2qr8x9
    case g2qy8x9 => first | (intro w hSw; (try dsimp only at hSw); go_simp; done) | (intro w hSw; (try dsimp only at hSw); go_simp; with_reducible rfl)
    case' g2qr8x9 => try simp only [Act.put, List.setIfInBounds_toArray, List.set_cons_zero, List.set_cons_succ]
    refine wpAnyH_takeL (i := 9) (v := ?g2qv9x10) rfl (by kernel_rfl) (by kernel_rfl) (by kernel_rfl) (fun _ _ _ h => h) (Or.inl ⟨by rfl, ?g2qy9x10⟩) (by assumption) ?g2qr9x10
    case g2qy9x10 => first | (intro w hSw; (try dsimp only at hSw); go_simp; done) | (intro w hSw; (try dsimp only at hSw); go_simp; with_reducible rfl)
    case' g2qr9x10 => try simp only [Act.put, List.setIfInBounds_toArray, List.set_cons_zero, List.set_cons_succ]
    refine wpAnyH_takeL (i := 10) (v := ?g2qv10x11) rfl (by kernel_rfl) (by kernel_rfl) (by kernel_rfl) (fun _ _ _ h => h) (Or.inl ⟨by rfl, ?g2qy10x11⟩) (by assumption) ?g2qr10x11
    case g2qy10x11 => first | (intro w hSw; (try dsimp only at hSw); go_simp; done) | (intro w hSw; (try dsimp only at hSw); go_simp; with_reducible rfl)
    case' g2qr10x11 => try simp only [Act.put, List.setIfInBounds_toArray, List.set_cons_zero, List.set_cons_succ]
    refine wpAnyH_ready (rs := [11]) (by kernel_rfl) (by simp) ?_
    refine (AllReadyH.consL rfl (fun K hK => ?g2qb11x12) AllReadyH.nil)
    case' g2qb11x12 =>
      go_simp
      obtain ⟨wL, aZ, hA1, hsz, hEg2q2, hge, hob⟩ := extAllocS HXg2q_1.out
      refine Eq.mpr (congrArg (K _) hA1) ?_
      first | rw [hsz] | (have hq : W1.heap.size = aZ := hsz; rw [hq]; clear hq) | skip
      have HZB := hid (show ZSy W1.heap.size aZ wL from ⟨hob, hge⟩)
      clear hA1 hsz hge hob
      have HXg2q_2 := hid (HXg2q_1.out.trans hEg2q2)
      clear hEg2q2
      refine hK.out _ _ (extc2 HC2.out HXg2q_2.out) (fun hSg2q2 => ?_)
      clear hK K
      try simp only [Act.put, List.setIfInBounds_toArray, List.set_cons_zero, List.set_cons_succ]
      refine wpAnyH_ready (rs := [12]) (by kernel_rfl) (by simp) ?_
      refine (AllReadyH.consL rfl (fun K hK => ?g2qb12x13) AllReadyH.nil)
      case' g2qb12x13 =>
        have HXend := HXg2q_2
        have z0 := HZB.out.bx.1
        have z1 := HZB.out.bx.2.1
        have z2 := HZB.out.bx.2.2.1
        have zf := HZB.out.bx.2.2.2
        go_simp
        refine hK.out _ _ (extc2 HC2.out (((HXg2q_2.out.setCell HZB.out.ge _).setCell HZB.out.ge _).setCell HZB.out.ge _)) (fun hSg2q3 => ?_)
        clear hK K
        try simp only [Act.put, List.setIfInBounds_toArray, List.set_cons_zero, List.set_cons_succ]
        refine wpAnyH_takeL (i := 13) (v := ?g2qv13x14) rfl (by kernel_rfl) (by kernel_rfl) (by kernel_rfl) (fun _ _ _ h => h) (Or.inl ⟨by rfl, ?g2qy13x14⟩) (by assumption) ?g2qr13x14
        case g2qy13x14 => first | (intro w hSw; (try dsimp only at hSw); go_simp; done) | (intro w hSw; (try dsimp only at hSw); go_simp; with_reducible rfl)
        case' g2qr13x14 => try simp only [Act.put, List.setIfInBounds_toArray, List.set_cons_zero, List.set_cons_succ]
        refine wpAnyH_done (by kernel_rfl) ?_ _
        obtain ⟨W2, hW2⟩ : ∃ W2, put3 wL aZ t = W2 := ⟨_, rfl⟩
        have hS2 := HZB.out.bx.put (s := t)
        rw [hW2] at hS2
        have hE2 : Ext W1 W2 := by rw [← hW2]; exact ext_put3 HXend.out HZB.out.ge
        have hW2' : ((wL.setCell ⟨aZ, 0, none⟩ (.string t.name)).setCell ⟨aZ, 1, none⟩ (.int .u32 t.addr)).setCell ⟨aZ, 2, none⟩ (.int .i64 t.kind) = W2 := hW2
        rw [hW2']
        clear hW2 hW2'
        have HE2 := hid hE2
        have HP2 := hid (HP1.out.more hE2)
        have hX2 := HXC.out
        have hX12 := HE01.out.trans hE2
        have x0 := hX12.cell hX2.1
        have x1 := hX12.cell hX2.2.1
        have x2 := hX12.cell hX2.2.2.1
        have x3 := hX12.cell hX2.2.2.2.1
        have x4 := hX12.cell hX2.2.2.2.2
        have y1 := hE2.cell HY.out.1
        have y2 := hE2.cell HY.out.2
        have z1 := hS2.2.1
        clear hX2 hX12 hE2 hS2
        go_wp2_with fail
        refine (HVAL.out _).mono ?_
        rintro e w3 ⟨rfl, hx3⟩
        have HX3 := hid hx3
        have HP3 := hid (HP2.out.more hx3)
        have x1 := hx3.cell x1
        have y2 := hx3.cell y2
        clear hx3 x0 x2 x3 x4 y1 z1
        have hdat := HP3.out.secs.data k _ s HHK.out HS.out
        obtain ⟨gd, rfl, -⟩ := OwnS.at0 (A := hA) (n := s.data.length) (c := hc) hdat (by have := HFL.out; omega)
        have hcap : s.data.length ≤ hc ∧ hc ≤ 9223372036854775807 := hdat.sl.cap
        have hslc := slice_from (P := Try.prog) (t := 44) (e := 5) (g := gd) Try.underlying44 HI8.out HI81.out (f := f) (n := s.data.length) (c := hc) (by have := HFL.out; omega) hcap.1 hcap.2 (by have := HFL.out; have := hcap.1; omega)
        have HDAT := hid hdat
        clear hdat
        go_wp2_with fail
        refine wp_region_split 7 (by kernel_rfl) rfl rfl (by kernel_rfl) (fun w' => w'.cell? ⟨W0.heap.size, 2, none⟩ = some (.slice (some ⟨gd, 0, none⟩) s.data.length hc) ∧ w'.cell? ⟨w.heap.size, 1, none⟩ = some (.int .i64 f)) ⟨y2, x1⟩ (fun hSg3q0 => ?_)
        refine wpAnyH_takeL (i := 0) (v := ?g3qv0) rfl (by kernel_rfl) (by kernel_rfl) (by kernel_rfl) (fun _ _ _ h => h) (Or.inl ⟨by rfl, ?g3qy0⟩) (by assumption) ?g3qr0
        case g3qy0 => first | (intro w hSw; (try dsimp only at hSw); go_simp; done) | (intro w hSw; (try dsimp only at hSw); go_simp; with_reducible rfl)
        case' g3qr0 => try simp only [Act.put, List.setIfInBounds_toArray, List.set_cons_zero, List.set_cons_succ]
        refine wpAnyH_takeL (i := 1) (v := ?g3qv1) rfl (by kernel_rfl) (by kernel_rfl) (by kernel_rfl) (fun _ _ _ h => h) (Or.inl ⟨by rfl, ?g3qy1⟩) (by assumption) ?g3qr1
        case g3qy1 => first | (intro w hSw; (try dsimp only at hSw); go_simp; done) | (intro w hSw; (try dsimp only at hSw); go_simp; with_reducible rfl)
        case' g3qr1 => try simp only [Act.put, List.setIfInBounds_toArray, List.set_cons_zero, List.set_cons_succ]
        refine wpAnyH_takeL (i := 2) (v := ?g3qv2) rfl (by kernel_rfl) (by kernel_rfl) (by kernel_rfl) (fun _ _ _ h => h) (Or.inl ⟨by rfl, ?g3qy2⟩) (by assumption) ?g3qr2
        case g3qy2 => first | (intro w hSw; (try dsimp only at hSw); go_simp; done) | (intro w hSw; (try dsimp only at hSw); go_simp; with_reducible rfl)
        case' g3qr2 => try simp only [Act.put, List.setIfInBounds_toArray, List.set_cons_zero, List.set_cons_succ]
        refine wpAnyH_takeL (i := 3) (v := ?g3qv3) rfl (by kernel_rfl) (by kernel_rfl) (by kernel_rfl) (fun _ _ _ h => h) (Or.inl ⟨by rfl, ?g3qy3⟩) (by assumption) ?g3qr3
        case g3qy3 => first | (intro w hSw; (try dsimp only at hSw); go_simp; done) | (intro w hSw; (try dsimp only at hSw); go_simp; with_reducible rfl)
        case' g3qr3 => try simp only [Act.put, List.setIfInBounds_toArray, List.set_cons_zero, List.set_cons_succ]
        refine wpAnyH_takeL (i := 4) (v := ?g3qv4) rfl (by kernel_rfl) (by kernel_rfl) (by kernel_rfl) (fun _ _ _ h => h) (Or.inl ⟨by rfl, ?g3qy4⟩) (by assumption) ?g3qr4
        case g3qy4 => first | (intro w hSw; (try dsimp only at hSw); go_simp; done) | (intro w hSw; (try dsimp only at hSw); go_simp; with_reducible rfl)
        case' g3qr4 => try simp only [Act.put, List.setIfInBounds_toArray, List.set_cons_zero, List.set_cons_succ]
        refine wpAnyH_takeL (i := 5) (v := ?g3qv5) rfl (by kernel_rfl) (by kernel_rfl) (by kernel_rfl) (fun _ _ _ h => h) (Or.inl ⟨by rfl, ?g3qy5⟩) (by assumption) ?g3qr5
        case g3qy5 => first | (intro w hSw; (try dsimp only at hSw); go_simp; done) | (intro w hSw; (try dsimp only at hSw); go_simp; with_reducible rfl)
        case' g3qr5 => try simp only [Act.put, List.setIfInBounds_toArray, List.set_cons_zero, List.set_cons_succ]
        refine wpAnyH_ready (rs := [6]) (by kernel_rfl) (by simp) ?_
        refine AllReadyH.consL rfl (fun K hK => ?_) AllReadyH.nil
        go_simp
        go_at_call 64
        refine (put4_any _ N HNL.out).mono ?_
        rintro e w6 ⟨A6, c6, rfl, ho6, hx6⟩
        have HO6 := hid ho6
        have HX6 := hid ((Ext.refl w3).drew.trans hx6)
        clear ho6 hx6
        refine hK.out _ _ ⟨HX6.out.cell y2, HX6.out.cell x1⟩ (fun hSg3q1 => ?_)
        clear hK K
        try simp only [Act.put, List.setIfInBounds_toArray, List.set_cons_zero, List.set_cons_succ]
        refine wpAnyH_done (by kernel_rfl) ?_ _
        change wpList _ _ _ _ _ _
        clear x1 y2 hslc
        refine wpList_copy_num rfl (.tmp 46) (.tmp 48) 44 44 rfl 5 Try.underlying44 (by kernel_rfl) gd f (s.data.length - f) (hc - f) A6 4 c6 rfl rfl (HDAT.out.ext HX6.out) HO6.out.sl (by omega) (by have := HFL.out; omega) (by have := HFL.out; omega) ?_
        intro w7 ho7 hg7
        have HP6 := HP3.out.more HX6.out
        have HP7 := hid (HP6.write HHK.out HS.out ho7 (by have := HFL.out; simp [bytes4]; omega) hg7)
        clear ho7 hg7 HP6
        go_wp2
        go_end0
        refine ⟨rfl, ?_⟩
        rw [HL3.out]
        exact HP7.out
  case' g2qb11x8 =>
    go_simp
    obtain ⟨wL, aZ, hA1, hsz, hEg2q1, hge, hob⟩ := extAllocS HXg2q_0.out
    refine Eq.mpr (congrArg (K _) hA1) ?_
    first | rw [hsz] | (have hq : W1.heap.size = aZ := hsz; rw [hq]; clear hq) | skip
    have HZB := hid (show ZSy W1.heap.size aZ wL from ⟨hob, hge⟩)
    clear hA1 hsz hge hob
    have HXg2q_1 := hid (HXg2q_0.out.trans hEg2q1)
    clear hEg2q1
    refine hK.out _ _ (extc2 HC2.out HXg2q_1.out) (fun hSg2q1 => ?_)
    clear hK K
    try simp only [Act.put, List.setIfInBounds_toArray, List.set_cons_zero, List.set_cons_succ]
    refine wpAnyH_ready (rs := [7]) (by kernel_rfl) (by simp) ?_
    refine (AllReadyH.consL rfl (fun K hK => ?g2qb7x15) AllReadyH.nil)
    case' g2qb7x15 =>
      go_simp
      go_at_call 53
      refine (syfind_any _ A2 n2 c2 syms ((HP1.out.syms.all).ext HXg2q_1.out) sym).mono ?_
      rintro e wL ⟨hEg2q2, rfl⟩
      rw [HFS.out]
      simp only [Option.getD_some, Option.isSome_some, syVal]
      have HXg2q_2 := hid (HXg2q_1.out.trans hEg2q2)
      have HZB := hid (HZB.out.ext hEg2q2)
      clear hEg2q2
      refine hK.out _ _ (extc2 HC2.out HXg2q_2.out) (fun hSg2q2 => ?_)
      clear hK K
      try simp only [Act.put, List.setIfInBounds_toArray, List.set_cons_zero, List.set_cons_succ]
      refine wpAnyH_takeL (i := 8) (v := ?g2qv8x16) rfl (by kernel_rfl) (by kernel_rfl) (by kernel_rfl) (fun _ _ _ h => h) (Or.inl ⟨by rfl, ?g2qy8x16⟩) (by assumption) ?g2qr8x16
      case g2qy8x16 => first | (intro w hSw; (try dsimp only at hSw); go_simp; done) | (intro w hSw; (try dsimp only at hSw); go_simp; with_reducible rfl)
      case' g2qr8x16 => try simp only [Act.put, List.setIfInBounds_toArray, List.set_cons_zero, List.set_cons_succ]
      refine wpAnyH_takeL (i := 9) (v := ?g2qv9x17) rfl (by kernel_rfl) (by kernel_rfl) (by kernel_rfl) (fun _ _ _ h => h) (Or.inl ⟨by rfl, ?g2qy9x17⟩) (by assumption) ?g2qr9x17
      case g2qy9x17 => first | (intro w hSw; (try dsimp only at hSw); go_simp; done) | (intro w hSw; (try dsimp only at hSw); go_simp; with_reducible rfl)
      case' g2qr9x17 => try simp only [Act.put, List.setIfInBounds_toArray, List.set_cons_zero, List.set_cons_succ]
      refine wpAnyH_takeL (i := 10) (v := ?g2qv10x18) rfl (by kernel_rfl) (by kernel_rfl) (by kernel_rfl) (fun _ _ _ h => h) (Or.inl ⟨by rfl, ?g2qy10x18⟩) (by assumption) ?g2qr10x18
      case g2qy10x18 => first | (intro w hSw; (try dsimp only at hSw); go_simp; done) | (intro w hSw; (try dsimp only at hSw); go_simp; with_reducible rfl)
      case' g2qr10x18 => try simp only [Act.put, List.setIfInBounds_toArray, List.set_cons_zero, List.set_cons_succ]
      refine wpAnyH_ready (rs := [12]) (by kernel_rfl) (by simp) ?_
      refine (AllReadyH.consL rfl (fun K hK => ?g2qb12x19) AllReadyH.nil)
      case' g2qb12x19 =>
        have HXend := HXg2q_2
        have z0 := HZB.out.bx.1
        have z1 := HZB.out.bx.2.1
        have z2 := HZB.out.bx.2.2.1
        have zf := HZB.out.bx.2.2.2
        go_simp
        refine hK.out _ _ (extc2 HC2.out (((HXg2q_2.out.setCell HZB.out.ge _).setCell HZB.out.ge _).setCell HZB.out.ge _)) (fun hSg2q3 => ?_)
        clear hK K
        try simp only [Act.put, List.setIfInBounds_toArray, List.set_cons_zero, List.set_cons_succ]
        refine wpAnyH_takeL (i := 13) (v := ?g2qv13x20) rfl (by kernel_rfl) (by kernel_rfl) (by kernel_rfl) (fun _ _ _ h => h) (Or.inl ⟨by rfl, ?g2qy13x20⟩) (by assumption) ?g2qr13x20
        case g2qy13x20 => first | (intro w hSw; (try dsimp only at hSw); go_simp; done) | (intro w hSw; (try dsimp only at hSw); go_simp; with_reducible rfl)
        case' g2qr13x20 => try simp only [Act.put, List.setIfInBounds_toArray, List.set_cons_zero, List.set_cons_succ]
        refine wpAnyH_done (by kernel_rfl) ?_ _
        obtain ⟨W2, hW2⟩ : ∃ W2, put3 wL aZ t = W2 := ⟨_, rfl⟩
        have hS2 := HZB.out.bx.put (s := t)
        rw [hW2] at hS2
        have hE2 : Ext W1 W2 := by rw [← hW2]; exact ext_put3 HXend.out HZB.out.ge
        have hW2' : ((wL.setCell ⟨aZ, 0, none⟩ (.string t.name)).setCell ⟨aZ, 1, none⟩ (.int .u32 t.addr)).setCell ⟨aZ, 2, none⟩ (.int .i64 t.kind) = W2 := hW2
        rw [hW2']
        clear hW2 hW2'
        have HE2 := hid hE2
        have HP2 := hid (HP1.out.more hE2)
        have hX2 := HXC.out
        have hX12 := HE01.out.trans hE2
        have x0 := hX12.cell hX2.1
        have x1 := hX12.cell hX2.2.1
        have x2 := hX12.cell hX2.2.2.1
        have x3 := hX12.cell hX2.2.2.2.1
        have x4 := hX12.cell hX2.2.2.2.2
        have y1 := hE2.cell HY.out.1
        have y2 := hE2.cell HY.out.2
        have z1 := hS2.2.1
        clear hX2 hX12 hE2 hS2
        go_wp2_with fail
        refine (HVAL.out _).mono ?_
        rintro e w3 ⟨rfl, hx3⟩
        have HX3 := hid hx3
        have HP3 := hid (HP2.out.more hx3)
        have x1 := hx3.cell x1
        have y2 := hx3.cell y2
        clear hx3 x0 x2 x3 x4 y1 z1
        have hdat := HP3.out.secs.data k _ s HHK.out HS.out
        obtain ⟨gd, rfl, -⟩ := OwnS.at0 (A := hA) (n := s.data.length) (c := hc) hdat (by have := HFL.out; omega)
        have hcap : s.data.length ≤ hc ∧ hc ≤ 9223372036854775807 := hdat.sl.cap
        have hslc := slice_from (P := Try.prog) (t := 44) (e := 5) (g := gd) Try.underlying44 HI8.out HI81.out (f := f) (n := s.data.length) (c := hc) (by have := HFL.out; omega) hcap.1 hcap.2 (by have := HFL.out; have := hcap.1; omega)
        have HDAT := hid hdat
        clear hdat
        go_wp2_with fail
        refine wp_region_split 7 (by kernel_rfl) rfl rfl (by kernel_rfl) (fun w' => w'.cell? ⟨W0.heap.size, 2, none⟩ = some (.slice (some ⟨gd, 0, none⟩) s.data.length hc) ∧ w'.cell? ⟨w.heap.size, 1, none⟩ = some (.int .i64 f)) ⟨y2, x1⟩ (fun hSg4q0 => ?_)
        refine wpAnyH_takeL (i := 0) (v := ?g4qv0) rfl (by kernel_rfl) (by kernel_rfl) (by kernel_rfl) (fun _ _ _ h => h) (Or.inl ⟨by rfl, ?g4qy0⟩) (by assumption) ?g4qr0
        case g4qy0 => first | (intro w hSw; (try dsimp only at hSw); go_simp; done) | (intro w hSw; (try dsimp only at hSw); go_simp; with_reducible rfl)
        case' g4qr0 => try simp only [Act.put, List.setIfInBounds_toArray, List.set_cons_zero, List.set_cons_succ]
        refine wpAnyH_takeL (i := 1) (v := ?g4qv1) rfl (by kernel_rfl) (by kernel_rfl) (by kernel_rfl) (fun _ _ _ h => h) (Or.inl ⟨by rfl, ?g4qy1⟩) (by assumption) ?g4qr1
        case g4qy1 => first | (intro w hSw; (try dsimp only at hSw); go_simp; done) | (intro w hSw; (try dsimp only at hSw); go_simp; with_reducible rfl)
        case' g4qr1 => try simp only [Act.put, List.setIfInBounds_toArray, List.set_cons_zero, List.set_cons_succ]
        refine wpAnyH_takeL (i := 2) (v := ?g4qv2) rfl (by kernel_rfl) (by kernel_rfl) (by kernel_rfl) (fun _ _ _ h => h) (Or.inl ⟨by rfl, ?g4qy2⟩) (by assumption) ?g4qr2
        case g4qy2 => first | (intro w hSw; (try dsimp only at hSw); go_simp; done) | (intro w hSw; (try dsimp only at hSw); go_simp; with_reducible rfl)
        case' g4qr2 => try simp only [Act.put, List.setIfInBounds_toArray, List.set_cons_zero, List.set_cons_succ]
        refine wpAnyH_takeL (i := 3) (v := ?g4qv3) rfl (by kernel_rfl) (by kernel_rfl) (by kernel_rfl) (fun _ _ _ h => h) (Or.inl ⟨by rfl, ?g4qy3⟩) (by assumption) ?g4qr3
        case g4qy3 => first | (intro w hSw; (try dsimp only at hSw); go_simp; done) | (intro w hSw; (try dsimp only at hSw); go_simp; with_reducible rfl)
        case' g4qr3 => try simp only [Act.put, List.setIfInBounds_toArray, List.set_cons_zero, List.set_cons_succ]
        refine wpAnyH_takeL (i := 4) (v := ?g4qv4) rfl (by kernel_rfl) (by kernel_rfl) (by kernel_rfl) (fun _ _ _ h => h) (Or.inl ⟨by rfl, ?g4qy4⟩) (by assumption) ?g4qr4
        case g4qy4 => first | (intro w hSw; (try dsimp only at hSw); go_simp; done) | (intro w hSw; (try dsimp only at hSw); go_simp; with_reducible rfl)
        case' g4qr4 => try simp only [Act.put, List.setIfInBounds_toArray, List.set_cons_zero, List.set_cons_succ]
        refine wpAnyH_takeL (i := 5) (v := ?g4qv5) rfl (by kernel_rfl) (by kernel_rfl) (by kernel_rfl) (fun _ _ _ h => h) (Or.inl ⟨by rfl, ?g4qy5⟩) (by assumption) ?g4qr5
        case g4qy5 => first | (intro w hSw; (try dsimp only at hSw); go_simp; done) | (intro w hSw; (try dsimp only at hSw); go_simp; with_reducible rfl)
        case' g4qr5 => try simp only [Act.put, List.setIfInBounds_toArray, List.set_cons_zero, List.set_cons_succ]
        refine wpAnyH_ready (rs := [6]) (by kernel_rfl) (by simp) ?_
        refine AllReadyH.consL rfl (fun K hK => ?_) AllReadyH.nil
        go_simp
        go_at_call 64
        refine (put4_any _ N HNL.out).mono ?_
        rintro e w6 ⟨A6, c6, rfl, ho6, hx6⟩
        have HO6 := hid ho6
        have HX6 := hid ((Ext.refl w3).drew.trans hx6)
        clear ho6 hx6
        refine hK.out _ _ ⟨HX6.out.cell y2, HX6.out.cell x1⟩ (fun hSg4q1 => ?_)
        clear hK K
        try simp only [Act.put, List.setIfInBounds_toArray, List.set_cons_zero, List.set_cons_succ]
        refine wpAnyH_done (by kernel_rfl) ?_ _
        change wpList _ _ _ _ _ _
        clear x1 y2 hslc
        refine wpList_copy_num rfl (.tmp 46) (.tmp 48) 44 44 rfl 5 Try.underlying44 (by kernel_rfl) gd f (s.data.length - f) (hc - f) A6 4 c6 rfl rfl (HDAT.out.ext HX6.out) HO6.out.sl (by omega) (by have := HFL.out; omega) (by have := HFL.out; omega) ?_
        intro w7 ho7 hg7
        have HP6 := HP3.out.more HX6.out
        have HP7 := hid (HP6.write HHK.out HS.out ho7 (by have := HFL.out; simp [bytes4]; omega) hg7)
        clear ho7 hg7 HP6
        go_wp2
        go_end0
        refine ⟨rfl, ?_⟩
        rw [HL3.out]
        exact HP7.out
end Go.Proofs.Ytnlofhbimfcejaa
