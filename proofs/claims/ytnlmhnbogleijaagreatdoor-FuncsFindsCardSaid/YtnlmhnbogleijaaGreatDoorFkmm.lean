/- decompilerref18: the function at an entry. decompilerref18.Find, Same; FuncsFinds: the law walked. -/
import Derived.Test.YtnlmhnbogleijaaGreatDoorFbJm
import Derived.Test.YtnlmhnbogleijaaGreatDoorR6Bm
import Derived.Test.YtnlmhnbogleijaaGreatDoorR6Cm
import Derived.Test.YtnlmhnbogleijaaGreatDoorLawB
import Derived.Deep.DeepBigQuietO
import Derived.Deep.CutRange
import Derived.Test.YtnlmhnbogleijaaGreatDoorFunEm
namespace Go.Proofs.YtnlmhnbogleijaaGreatDoor
open Go.RowKit Go.Deco
set_option linter.unusedSimpArgs false
set_option linter.unusedVariables false

theorem strOf_drop (l : List Nat) (k : Nat) : (Go.Deco.strOf l).extract k (Go.Deco.strOf l).size = Go.Deco.strOf (l.drop k) := by
  apply ByteArray.ext
  simp only [Go.Deco.strOf, ByteArray.size, ByteArray.data_extract, List.size_toArray, List.length_map, List.extract_toArray, List.extract_eq_take_drop, ← List.map_drop]
  rw [List.take_of_length_le (by simp)]
/-- A box for a function. -/
structure BxF (w : World) (p : Nat) (u0 u1 u2 u3 u4 : Value) : Prop where
  c0 : w.cell? ⟨p, 0, none⟩ = some u0
  c1 : w.cell? ⟨p, 1, none⟩ = some u1
  c2 : w.cell? ⟨p, 2, none⟩ = some u2
  c3 : w.cell? ⟨p, 3, none⟩ = some u3
  c4 : w.cell? ⟨p, 4, none⟩ = some u4
  fz : ∀ i, w.frozen? ⟨p, i, none⟩ = false
namespace BxF
variable {w w' : World} {p : Nat} {u0 u1 u2 u3 u4 : Value}
theorem lt (h : BxF w p u0 u1 u2 u3 u4) : p < w.heap.size := World.block_lt_of_cell? _ _ h.c0
theorem ext (h : BxF w p u0 u1 u2 u3 u4) (he : Ext w w') : BxF w' p u0 u1 u2 u3 u4 :=
  ⟨he.cell h.c0, he.cell h.c1, he.cell h.c2, he.cell h.c3, he.cell h.c4, fun i => (he.frozen (p := ⟨p, i, none⟩) h.lt).trans (h.fz i)⟩
theorem put (h : BxF w p u0 u1 u2 u3 u4) (j : Nat) (v : Value) : ∀ i u, i ≠ j → w.cell? ⟨p, i, none⟩ = some u → (w.setCell ⟨p, j, none⟩ v).cell? ⟨p, i, none⟩ = some u :=
  fun i u hi hu => (World.cell?_setCell_other _ _ _ _ (fun e => hi (by have := congrArg Addr.off e; exact this.symm))).trans hu
theorem pfz (h : BxF w p u0 u1 u2 u3 u4) (j : Nat) (v : Value) : ∀ i, (w.setCell ⟨p, j, none⟩ v).frozen? ⟨p, i, none⟩ = false := fun i => by rw [World.frozen?_setCell]; exact h.fz i
theorem put0 (h : BxF w p u0 u1 u2 u3 u4) (v : Value) : BxF (w.setCell ⟨p, 0, none⟩ v) p v u1 u2 u3 u4 :=
  ⟨World.cell?_setCell_same _ _ _ h.c0, h.put 0 v 1 _ (by omega) h.c1, h.put 0 v 2 _ (by omega) h.c2, h.put 0 v 3 _ (by omega) h.c3, h.put 0 v 4 _ (by omega) h.c4, h.pfz 0 v⟩
theorem put1 (h : BxF w p u0 u1 u2 u3 u4) (v : Value) : BxF (w.setCell ⟨p, 1, none⟩ v) p u0 v u2 u3 u4 :=
  ⟨h.put 1 v 0 _ (by omega) h.c0, World.cell?_setCell_same _ _ _ h.c1, h.put 1 v 2 _ (by omega) h.c2, h.put 1 v 3 _ (by omega) h.c3, h.put 1 v 4 _ (by omega) h.c4, h.pfz 1 v⟩
theorem put2 (h : BxF w p u0 u1 u2 u3 u4) (v : Value) : BxF (w.setCell ⟨p, 2, none⟩ v) p u0 u1 v u3 u4 :=
  ⟨h.put 2 v 0 _ (by omega) h.c0, h.put 2 v 1 _ (by omega) h.c1, World.cell?_setCell_same _ _ _ h.c2, h.put 2 v 3 _ (by omega) h.c3, h.put 2 v 4 _ (by omega) h.c4, h.pfz 2 v⟩
theorem put3 (h : BxF w p u0 u1 u2 u3 u4) (v : Value) : BxF (w.setCell ⟨p, 3, none⟩ v) p u0 u1 u2 v u4 :=
  ⟨h.put 3 v 0 _ (by omega) h.c0, h.put 3 v 1 _ (by omega) h.c1, h.put 3 v 2 _ (by omega) h.c2, World.cell?_setCell_same _ _ _ h.c3, h.put 3 v 4 _ (by omega) h.c4, h.pfz 3 v⟩
theorem put4 (h : BxF w p u0 u1 u2 u3 u4) (v : Value) : BxF (w.setCell ⟨p, 4, none⟩ v) p u0 u1 u2 u3 v :=
  ⟨h.put 4 v 0 _ (by omega) h.c0, h.put 4 v 1 _ (by omega) h.c1, h.put 4 v 2 _ (by omega) h.c2, h.put 4 v 3 _ (by omega) h.c3, World.cell?_setCell_same _ _ _ h.c4, h.pfz 4 v⟩
theorem new (w : World) (u0 u1 u2 u3 u4 : Value) (t : TypeId) : BxF (w.alloc (.cells #[u0, u1, u2, u3, u4] t)) w.heap.size u0 u1 u2 u3 u4 :=
  ⟨by simp [go_sem], by simp [go_sem], by simp [go_sem], by simp [go_sem], by simp [go_sem], fun i => by simp [go_sem]⟩
end BxF
/-- A box not yet written. -/
structure ZBF (lo p : Nat) (w : World) : Prop where
  bx : BxF w p (.int .u32 0) (.string ⟨#[]⟩) (.slice none 0 0) (.slice none 0 0) (.bool false)
  ge : lo ≤ p
theorem ZBF.ext {lo p : Nat} {w w' : World} (h : ZBF lo p w) (he : Ext w w') : ZBF lo p w' := ⟨h.bx.ext he, h.ge⟩
theorem extAllocF {a w : World} (h : Ext a w) : ∃ wA sz, w.alloc (.cells #[.int .u32 0, .string ⟨#[]⟩, .slice none 0 0, .slice none 0 0, .bool false] 41) = wA ∧ w.heap.size = sz ∧ Ext w wA ∧ a.heap.size ≤ sz ∧ BxF wA sz (.int .u32 0) (.string ⟨#[]⟩) (.slice none 0 0) (.slice none 0 0) (.bool false) :=
  ⟨_, _, rfl, rfl, (Ext.refl w).alloc _, h.size, BxF.new w _ _ _ _ _ 41⟩
/-- A row set apart: it stays where a box is written. -/
def Apart (lo p : Nat) (d : Nat) : Prop := lo ≤ d ∧ d ≠ p
theorem Apart.set {E : Type} {R : Rep E} {w : World} {lo p j : Nat} {u v : Value} {l : List E} (h : Sl R w (Apart lo p) v l) : Sl R (w.setCell ⟨p, j, none⟩ u) (Apart lo p) v l :=
  h.keep fun d hd _ => Below.heap_setCell _ _ _ _ (fun e => hd.2 e)
/-- The function under way. -/
structure RF (wo : World) (p a : Nat) (nm : ByteArray) (AB : Option Addr) (cb : Nat) (BL : List Nat) (AC : Option Addr) (cc : Nat) (C : List Nat) (L : Bool) (V : World) : Prop where
  ext : Ext wo V
  bx : BxF V p (.int .u32 a) (.string nm) (.slice AB BL.length cb) (.slice AC C.length cc) (.bool L)
  sb : Sl u32R V (Apart wo.heap.size p) (.slice AB BL.length cb) BL
  sc : Sl u32R V (Apart wo.heap.size p) (.slice AC C.length cc) C
  ge : wo.heap.size ≤ p
namespace RF
variable {wo V V' : World} {p a : Nat} {nm : ByteArray} {AB : Option Addr} {cb : Nat} {BL : List Nat} {AC : Option Addr} {cc : Nat} {C : List Nat} {L : Bool}
theorem more (h : RF wo p a nm AB cb BL AC cc C L V) (he : Ext V V') : RF wo p a nm AB cb BL AC cc C L V' := ⟨h.ext.trans he, h.bx.ext he, h.sb.ext he, h.sc.ext he, h.ge⟩
theorem name (h : RF wo p a nm AB cb BL AC cc C L V) (nm' : ByteArray) : RF wo p a nm' AB cb BL AC cc C L (V.setCell ⟨p, 1, none⟩ (.string nm')) :=
  ⟨h.ext.setCell (p := ⟨p, 1, none⟩) h.ge _, h.bx.put1 _, Apart.set h.sb, Apart.set h.sc, h.ge⟩
theorem calls (h : RF wo p a nm AB cb BL AC cc C L V) {A' : Option Addr} {c' : Nat} {C' : List Nat} (hs : Sl u32R V (Apart wo.heap.size p) (.slice A' C'.length c') C') : RF wo p a nm AB cb BL A' c' C' L (V.setCell ⟨p, 3, none⟩ (.slice A' C'.length c')) :=
  ⟨h.ext.setCell (p := ⟨p, 3, none⟩) h.ge _, h.bx.put3 _, Apart.set h.sb, Apart.set hs, h.ge⟩
theorem leaf (h : RF wo p a nm AB cb BL AC cc C L V) (L' : Bool) : RF wo p a nm AB cb BL AC cc C L' (V.setCell ⟨p, 4, none⟩ (.bool L')) :=
  ⟨h.ext.setCell (p := ⟨p, 4, none⟩) h.ge _, h.bx.put4 _, Apart.set h.sb, Apart.set h.sc, h.ge⟩
end RF
theorem keepT {a w : World} (_ : Ext a w) : True := trivial
theorem rk_lo {a w : World} (h : Ext a w) : ∃ lo, lo = w.heap.size ∧ a.heap.size ≤ lo := ⟨_, rfl, h.size⟩
def ZGe (n : Nat) (w : World) : Prop := n ≤ w.heap.size
theorem ZGe.ext {n : Nat} {w w' : World} (h : ZGe n w) (he : Ext w w') : ZGe n w' := Nat.le_trans h he.size
/-- Calls inserted. -/
def Ins2 (C0 C X : List Nat) : Prop := C.Pairwise (· < ·) ∧ ∀ c, c ∈ C ↔ c ∈ C0 ∨ c ∈ X
theorem Ins2.nil {C0 : List Nat} (h : C0.Pairwise (· < ·)) : Ins2 C0 C0 [] := ⟨h, fun c => by simp⟩
theorem Ins2.add {C0 C X : List Nat} (h : Ins2 C0 C X) (x : Nat) : Ins2 C0 (insOf C x) (X ++ [x]) :=
  ⟨ins_asc h.1, fun c => by rw [ins_mem, h.2]; simp; constructor <;> (intro h; rcases h with h | h | h <;> simp [h])⟩
theorem Ins2.same {C0 C X X' : List Nat} (h : Ins2 C0 C X) (e : X = X') : Ins2 C0 C X' := e ▸ h
/-- All calls of all blocks. -/
def allC (b : List Bs) : List Nat := (b.map ownCalls).flatten
theorem allC_len {b : List Bs} (hb : b.length ≤ 20) (h : ∀ s ∈ b, okB s) : (allC b).length ≤ 5200 := by
  have h1 := flat_len (m := 260) (l := b.map ownCalls) (by
    intro x hx
    obtain ⟨s, hs, rfl⟩ := List.mem_map.1 hx
    obtain ⟨h1, h2, h3, h4⟩ := h s hs
    have h5 := flat_len h4
    have h6 := callsTo_len s.ins s.ins.length
    rw [ownCalls_eq, List.length_append]
    omega)
  rw [List.length_map] at h1
  unfold allC
  omega
theorem allC_mem {b : List Bs} {s : Bs} {c : Nat} (hs : s ∈ b) (hc : c ∈ ownCalls s) : c ∈ allC b := List.mem_flatten.2 ⟨_, List.mem_map.2 ⟨s, hs, rfl⟩, hc⟩
theorem calls_len {b : List Bs} {C : List Nat} (hb : b.length ≤ 20) (h : ∀ s ∈ b, okB s) (hC : C.Pairwise (· < ·)) (hm : ∀ c ∈ C, c ∈ allC b) : C.length ≤ 5200 :=
  Nat.le_trans (nodup_sub_len (pw_nodup hC) hm) (allC_len hb h)
theorem flat_take_sub {α : Type} {l : List (List α)} {k : Nat} {c : α} (h : c ∈ (l.take k).flatten) : c ∈ l.flatten := by
  obtain ⟨g, hg, hc⟩ := List.mem_flatten.1 h
  exact List.mem_flatten.2 ⟨g, List.mem_of_mem_take hg, hc⟩
theorem callsTo_sub {ins : List In} {k c : Nat} (h : c ∈ callsTo ins k) : c ∈ callsTo ins ins.length := by
  unfold callsTo at *
  obtain ⟨i, hi, rfl⟩ := List.mem_map.1 h
  obtain ⟨h1, h2⟩ := List.mem_filter.1 hi
  rw [List.take_length]
  exact List.mem_map.2 ⟨i, List.mem_filter.2 ⟨List.mem_of_mem_take h1, h2⟩, rfl⟩

/-- What function returns. -/
def RFnPost (w : World) (b : List Bs) (nm : ByteArray) (a : Nat) (e : Ending) (w' : World) : Prop :=
  Ext w w' ∧ ∃ A c A' c' f, e = .returned (.agg #[.int .u32 f.entry, .string f.name, .slice A f.blocks.length c, .slice A' f.calls.length c', .bool f.leaf]) ∧ FnOf b nm a f ∧ f.blocks.length ≤ 20 ∧ f.calls.length ≤ 5200 ∧ Sl u32R w' (fun d => w.heap.size ≤ d) (.slice A f.blocks.length c) f.blocks ∧ Sl u32R w' (fun d => w.heap.size ≤ d) (.slice A' f.calls.length c') f.calls

set_option maxRecDepth 100000 in
set_option maxHeartbeats 8000000 in
theorem rfunction_any (w : World) (A Y : Option Addr) (n c ny cy : Nat) (b : List Bs) (l : List Sy) (hl : Sl bsR w All (.slice A n c) b) (hy : Sl symR w All (.slice Y ny cy) l) (hn : n ≤ 20) (hok : ∀ s ∈ b, okB s) (a : Nat) (ha : a < 4294967296) :
    Calls Tryz.prog 22 #[.slice A n c, .int .u32 a, .slice Y ny cy] w (RFnPost w b (fnName l a) a) := by
  have hln := hl.len
  have hcb := hl.cap
  have mixed : Tryz.prog.follows Departure.mixedOrders = true := by kernel_rfl
  obtain ⟨wo, hwo⟩ : ∃ wo, w.alloc (.cells #[.int .u32 0, .string ⟨#[]⟩, .slice none 0 0, .slice none 0 0, .bool false] 41) = wo := ⟨_, rfl⟩
  have hE : Ext w wo := by rw [← hwo]; exact (Ext.refl w).alloc _
  have HRB : Hid (BxF wo w.heap.size (.int .u32 0) (.string ⟨#[]⟩) (.slice none 0 0) (.slice none 0 0) (.bool false)) := hid (by rw [← hwo]; exact BxF.new w _ _ _ _ _ 41)
  have HWO : Hid (wo.heap.size = w.heap.size + 1) := hid (by rw [← hwo]; simp)
  have HE := hid hE
  have HLN := hid hln
  have HB := hid (hl.ext hE)
  have HY := hid (hy.ext hE)
  have HOK := hid hok
  obtain ⟨H, hH⟩ : ∃ H, Go.Deco.strOf (48 :: 120 :: hexD a) = H := ⟨_, rfl⟩
  obtain ⟨D, hD⟩ : ∃ D, Go.Deco.strOf (hexD a) = D := ⟨_, rfl⟩
  obtain ⟨F, hF⟩ : ∃ F, Go.Deco.strOf (102 :: 95 :: hexD a) = F := ⟨_, rfl⟩
  have hex0 : H.extract 2 H.size = D := by rw [← hH, strOf_drop]; exact hD
  have hl9 : D.size ≤ 9 := by rw [← hD, strOf_size]; exact hexN_len 8 a
  have hH2 : H.size = 2 + D.size := by rw [← hH, ← hD, strOf_size, strOf_size]; simp; omega
  have hex : H.extract 2 (2 + D.size) = D := by rw [← hH2]; exact hex0
  have hap : (⟨#[102, 95]⟩ : ByteArray) ++ D = F := by
    rw [← hD, ← hF, show (⟨#[102, 95]⟩ : ByteArray) = Go.Deco.strOf [102, 95] from rfl, strOf_app]
    rfl
  have k2 : ¬ 9223372036854775807 < 2 + D.size := by omega
  have k3 : 2 ≤ H.size := by omega
  have k4 : (2 : Int) ≤ 2 + (D.size : Int) := by omega
  have HHX : Hid (∀ W, Calls Tryz.prog 42 #[.int .u32 a] W fun e w' => Ext W w' ∧ e = .returned (.string H)) := hid (fun W => (hex6_any W a ha).mono fun e w' h => by
    obtain ⟨h1, h2⟩ := h
    subst h2
    refine ⟨Ext.refl _, ?_⟩
    rw [h1, hexS, hH])
  have HFF := hid hF
  have HBK := hid (fun W (h : Ext wo W) => rblocks18_any W A n c b (HB.out.ext h) hn (fun s hs => (HOK.out s hs).2.1) a ha)
  obtain ⟨nm, hnm⟩ : ∃ nm, fnName l a = nm := ⟨_, rfl⟩
  rw [hnm]
  have HNM := hid hnm
  clear hl hy hok hln hE hH hD hF hex0 hnm
  go_enter Tryz.func22, Tryz.ntmps22
  go_upto_region 1 with fail
  clear hwo
  go_cut [7] from 8 to 24 (fun s7 wx => ∃ (p : Nat) (AB : Option Addr) (cb : Nat) (BL : List Nat), s7 = .pointer (some ⟨p, 0, none⟩) ∧ BL.length ≤ 20 ∧ Hid (RF wo p a F AB cb BL none 0 [] true wx) ∧ Hid (BL.Pairwise (· < ·)) ∧ Hid (∀ x, x ∈ BL ↔ ReachB b a x))
  case first =>
    clear HRB HWO
    have HXg1q_0 := hid ((Ext.refl wo).drew)
    refine wp_region_held_drew (S := (fun w' => True)) (by kernel_rfl) trivial (fun hSg1q0 => ?_)
    refine wpAnyH_takeL (i := 0) (v := ?g1qv0x1) rfl (by kernel_rfl) (by kernel_rfl) (by kernel_rfl) (fun _ _ _ h => h) (Or.inl ⟨by rfl, ?g1qy0x1⟩) (by assumption) ?g1qr0x1
    case g1qy0x1 => first | (intro w hSw; (try dsimp only at hSw); go_simp; done) | (intro w hSw; (try dsimp only at hSw); go_simp; with_reducible rfl)
    case' g1qr0x1 => try simp only [Act.put, List.setIfInBounds_toArray, List.set_cons_zero, List.set_cons_succ]
    refine wpAnyH_takeL (i := 1) (v := ?g1qv1x2) rfl (by kernel_rfl) (by kernel_rfl) (by kernel_rfl) (fun _ _ _ h => h) (Or.inl ⟨by rfl, ?g1qy1x2⟩) (by assumption) ?g1qr1x2
    case g1qy1x2 => first | (intro w hSw; (try dsimp only at hSw); go_simp; done) | (intro w hSw; (try dsimp only at hSw); go_simp; with_reducible rfl)
    case' g1qr1x2 => try simp only [Act.put, List.setIfInBounds_toArray, List.set_cons_zero, List.set_cons_succ]
    refine wpAnyH_takeL (i := 5) (v := ?g1qv5x3) rfl (by kernel_rfl) (by kernel_rfl) (by kernel_rfl) (fun _ _ _ h => h) (Or.inl ⟨by rfl, ?g1qy5x3⟩) (by assumption) ?g1qr5x3
    case g1qy5x3 => first | (intro w hSw; (try dsimp only at hSw); go_simp; done) | (intro w hSw; (try dsimp only at hSw); go_simp; with_reducible rfl)
    case' g1qr5x3 => try simp only [Act.put, List.setIfInBounds_toArray, List.set_cons_zero, List.set_cons_succ]
    refine wpAnyH_takeL (i := 6) (v := ?g1qv6x4) rfl (by kernel_rfl) (by kernel_rfl) (by kernel_rfl) (fun _ _ _ h => h) (Or.inl ⟨by rfl, ?g1qy6x4⟩) (by assumption) ?g1qr6x4
    case g1qy6x4 => first | (intro w hSw; (try dsimp only at hSw); go_simp; done) | (intro w hSw; (try dsimp only at hSw); go_simp; with_reducible rfl)
    case' g1qr6x4 => try simp only [Act.put, List.setIfInBounds_toArray, List.set_cons_zero, List.set_cons_succ]
    refine wpAnyH_ready (rs := [2, 9]) (by kernel_rfl) (by simp) ?_
    refine (AllReadyH.consL rfl (fun K hK => ?g1qb2x5) (AllReadyH.consL rfl (fun K hK => ?g1qb9x5) AllReadyH.nil))
    case' g1qb2x5 =>
      go_simp
      go_at_call 42
      refine (HHX.out _).mono ?_
      rintro e wL ⟨hEg1q1, rfl⟩
      have HXg1q_1 := hid (HXg1q_0.out.trans hEg1q1)
      clear hEg1q1
      refine hK.out _ _ (keepT HXg1q_1.out) (fun hSg1q1 => ?_)
      clear hK K
      try simp only [Act.put, List.setIfInBounds_toArray, List.set_cons_zero, List.set_cons_succ]
      refine wpAnyH_takeL (i := 3) (v := ?g1qv3x6) rfl (by kernel_rfl) (by kernel_rfl) (by kernel_rfl) (fun _ _ _ h => h) (Or.inl ⟨by rfl, ?g1qy3x6⟩) (by assumption) ?g1qr3x6
      case g1qy3x6 => first | (intro w hSw; (try dsimp only at hSw); go_simp; done) | (intro w hSw; (try dsimp only at hSw); go_simp; with_reducible rfl)
      case' g1qr3x6 => try simp only [Act.put, List.setIfInBounds_toArray, List.set_cons_zero, List.set_cons_succ]
      refine wpAnyH_takeL (i := 4) (v := ?g1qv4x7) rfl (by kernel_rfl) (by kernel_rfl) (by kernel_rfl) (fun _ _ _ h => h) (Or.inl ⟨by rfl, ?g1qy4x7⟩) (by assumption) ?g1qr4x7
      case g1qy4x7 => first | (intro w hSw; (try dsimp only at hSw); go_simp; done) | (intro w hSw; (try dsimp only at hSw); go_simp; with_reducible rfl)
      case' g1qr4x7 => try simp only [Act.put, List.setIfInBounds_toArray, List.set_cons_zero, List.set_cons_succ]
      refine wpAnyH_ready (rs := [7, 9]) (by kernel_rfl) (by simp) ?_
      refine (AllReadyH.consL rfl (fun K hK => ?g1qb7x8) (AllReadyH.consL rfl (fun K hK => ?g1qb9x8) AllReadyH.nil))
      case' g1qb7x8 =>
        go_simp
        go_at_call 43
        obtain ⟨lo, hlo, hwlo⟩ := rk_lo HXg1q_1.out
        try have HAS := hid (show aZ < lo from by rw [hlo]; exact HZB.out.bx.lt)
        have HWLO := hid hwlo
        refine (HBK.out _ HXg1q_1.out).mono ?_
        rintro e wL ⟨hEg1q2, AB, cb, BL, rfl, hsb, hba, hbm, hbl⟩
        obtain ⟨hi, hhi⟩ : ∃ hi, wL.heap.size = hi := ⟨_, rfl⟩
        have HSB := hid (hsb.mono (S' := fun d => lo ≤ d ∧ d < hi) fun d hd hc => ⟨by rw [hlo]; exact hd, by rw [← hhi]; exact hc.lt⟩)
        have HHI := hid (show ZGe hi wL from Nat.le_of_eq hhi.symm)
        have HBA := hid hba
        have HBM := hid hbm
        have HBL : Hid (BL.length ≤ 20) := hid (by have := HLN.out; omega)
        clear hsb hhi hba hbm hbl hlo hwlo
        have HXg1q_2 := hid (HXg1q_1.out.trans hEg1q2)
        clear hEg1q2
        refine hK.out _ _ (keepT HXg1q_2.out) (fun hSg1q2 => ?_)
        clear hK K
        try simp only [Act.put, List.setIfInBounds_toArray, List.set_cons_zero, List.set_cons_succ]
        refine wpAnyH_takeL (i := 8) (v := ?g1qv8x9) rfl (by kernel_rfl) (by kernel_rfl) (by kernel_rfl) (fun _ _ _ h => h) (Or.inl ⟨by rfl, ?g1qy8x9⟩) (by assumption) ?g1qr8x9
        case g1qy8x9 => first | (intro w hSw; (try dsimp only at hSw); go_simp; done) | (intro w hSw; (try dsimp only at hSw); go_simp; with_reducible rfl)
        case' g1qr8x9 => try simp only [Act.put, List.setIfInBounds_toArray, List.set_cons_zero, List.set_cons_succ]
        refine wpAnyH_ready (rs := [9]) (by kernel_rfl) (by simp) ?_
        refine (AllReadyH.consL rfl (fun K hK => ?g1qb9x10) AllReadyH.nil)
        case' g1qb9x10 =>
          go_simp
          obtain ⟨wL, aZ, hA1, hsz, hEg1q3, hge, hob⟩ := extAllocF HXg1q_2.out
          refine Eq.mpr (congrArg (K _) hA1) ?_
          first | rw [hsz] | (have hq : wo.heap.size = aZ := hsz; rw [hq]; clear hq) | skip
          have HZB := hid (show ZBF wo.heap.size aZ wL from ⟨hob, hge⟩)
          try have HAL := hid (show hi ≤ aZ from Nat.le_trans HHI.out (Nat.le_of_eq hsz))
          clear hA1 hsz hge hob
          have HXg1q_3 := hid (HXg1q_2.out.trans hEg1q3)
          have HSB := hid (HSB.out.ext hEg1q3)
          have HHI := hid (HHI.out.ext hEg1q3)
          clear hEg1q3
          refine hK.out _ _ (keepT HXg1q_3.out) (fun hSg1q3 => ?_)
          clear hK K
          try simp only [Act.put, List.setIfInBounds_toArray, List.set_cons_zero, List.set_cons_succ]
          refine wpAnyH_ready (rs := [10]) (by kernel_rfl) (by simp) ?_
          refine (AllReadyH.consL rfl (fun K hK => ?g1qb10x11) AllReadyH.nil)
          case' g1qb10x11 =>
            have HXend := HXg1q_3
            have z0 := HZB.out.bx.c0
            have z1 := HZB.out.bx.c1
            have z2 := HZB.out.bx.c2
            have z3 := HZB.out.bx.c3
            have z4 := HZB.out.bx.c4
            have zf := HZB.out.bx.fz
            go_simp
            refine hK.out _ _ trivial (fun hSg1q4 => ?_)
            clear hK K
            try simp only [Act.put, List.setIfInBounds_toArray, List.set_cons_zero, List.set_cons_succ]
            refine wpAnyH_done (by kernel_rfl) ?_ _
            have hne : ∀ d, lo ≤ d ∧ d < hi → Apart wo.heap.size aZ d := fun d hd => ⟨Nat.le_trans HWLO.out hd.1, fun e => by first | (have := HAL.out; omega) | (have := HAS.out; omega)⟩
            have hsb := HSB.out.mono (S' := Apart wo.heap.size aZ) fun d hd _ => hne d hd
            have hrf : RF wo aZ a F AB cb BL none 0 [] true (((((wL.setCell ⟨aZ, 0, none⟩ (.int .u32 a)).setCell ⟨aZ, 1, none⟩ (.string F)).setCell ⟨aZ, 2, none⟩ (.slice AB BL.length cb)).setCell ⟨aZ, 3, none⟩ (.slice none 0 0)).setCell ⟨aZ, 4, none⟩ (.bool true)) :=
              ⟨((((HXend.out.setCell (p := ⟨aZ, 0, none⟩) HZB.out.ge _).setCell (p := ⟨aZ, 1, none⟩) HZB.out.ge _).setCell (p := ⟨aZ, 2, none⟩) HZB.out.ge _).setCell (p := ⟨aZ, 3, none⟩) HZB.out.ge _).setCell (p := ⟨aZ, 4, none⟩) HZB.out.ge _, ((((HZB.out.bx.put0 _).put1 _).put2 _).put3 _).put4 _, Apart.set (Apart.set (Apart.set (Apart.set (Apart.set hsb)))), Sl.nil, HZB.out.ge⟩
            go_wp2
            go_meet
            exact ⟨aZ, AB, cb, BL, rfl, HBL.out, hid hrf, HBA, HBM⟩
      case' g1qb9x8 =>
        go_simp
        obtain ⟨wL, aZ, hA1, hsz, hEg1q2, hge, hob⟩ := extAllocF HXg1q_1.out
        refine Eq.mpr (congrArg (K _) hA1) ?_
        first | rw [hsz] | (have hq : wo.heap.size = aZ := hsz; rw [hq]; clear hq) | skip
        have HZB := hid (show ZBF wo.heap.size aZ wL from ⟨hob, hge⟩)
        try have HAL := hid (show hi ≤ aZ from Nat.le_trans HHI.out (Nat.le_of_eq hsz))
        clear hA1 hsz hge hob
        have HXg1q_2 := hid (HXg1q_1.out.trans hEg1q2)
        clear hEg1q2
        refine hK.out _ _ (keepT HXg1q_2.out) (fun hSg1q2 => ?_)
        clear hK K
        try simp only [Act.put, List.setIfInBounds_toArray, List.set_cons_zero, List.set_cons_succ]
        refine wpAnyH_ready (rs := [7]) (by kernel_rfl) (by simp) ?_
        refine (AllReadyH.consL rfl (fun K hK => ?g1qb7x12) AllReadyH.nil)
        case' g1qb7x12 =>
          go_simp
          go_at_call 43
          obtain ⟨lo, hlo, hwlo⟩ := rk_lo HXg1q_2.out
          try have HAS := hid (show aZ < lo from by rw [hlo]; exact HZB.out.bx.lt)
          have HWLO := hid hwlo
          refine (HBK.out _ HXg1q_2.out).mono ?_
          rintro e wL ⟨hEg1q3, AB, cb, BL, rfl, hsb, hba, hbm, hbl⟩
          obtain ⟨hi, hhi⟩ : ∃ hi, wL.heap.size = hi := ⟨_, rfl⟩
          have HSB := hid (hsb.mono (S' := fun d => lo ≤ d ∧ d < hi) fun d hd hc => ⟨by rw [hlo]; exact hd, by rw [← hhi]; exact hc.lt⟩)
          have HHI := hid (show ZGe hi wL from Nat.le_of_eq hhi.symm)
          have HBA := hid hba
          have HBM := hid hbm
          have HBL : Hid (BL.length ≤ 20) := hid (by have := HLN.out; omega)
          clear hsb hhi hba hbm hbl hlo hwlo
          have HXg1q_3 := hid (HXg1q_2.out.trans hEg1q3)
          have HZB := hid (HZB.out.ext hEg1q3)
          clear hEg1q3
          refine hK.out _ _ (keepT HXg1q_3.out) (fun hSg1q3 => ?_)
          clear hK K
          try simp only [Act.put, List.setIfInBounds_toArray, List.set_cons_zero, List.set_cons_succ]
          refine wpAnyH_takeL (i := 8) (v := ?g1qv8x13) rfl (by kernel_rfl) (by kernel_rfl) (by kernel_rfl) (fun _ _ _ h => h) (Or.inl ⟨by rfl, ?g1qy8x13⟩) (by assumption) ?g1qr8x13
          case g1qy8x13 => first | (intro w hSw; (try dsimp only at hSw); go_simp; done) | (intro w hSw; (try dsimp only at hSw); go_simp; with_reducible rfl)
          case' g1qr8x13 => try simp only [Act.put, List.setIfInBounds_toArray, List.set_cons_zero, List.set_cons_succ]
          refine wpAnyH_ready (rs := [10]) (by kernel_rfl) (by simp) ?_
          refine (AllReadyH.consL rfl (fun K hK => ?g1qb10x14) AllReadyH.nil)
          case' g1qb10x14 =>
            have HXend := HXg1q_3
            have z0 := HZB.out.bx.c0
            have z1 := HZB.out.bx.c1
            have z2 := HZB.out.bx.c2
            have z3 := HZB.out.bx.c3
            have z4 := HZB.out.bx.c4
            have zf := HZB.out.bx.fz
            go_simp
            refine hK.out _ _ trivial (fun hSg1q4 => ?_)
            clear hK K
            try simp only [Act.put, List.setIfInBounds_toArray, List.set_cons_zero, List.set_cons_succ]
            refine wpAnyH_done (by kernel_rfl) ?_ _
            have hne : ∀ d, lo ≤ d ∧ d < hi → Apart wo.heap.size aZ d := fun d hd => ⟨Nat.le_trans HWLO.out hd.1, fun e => by first | (have := HAL.out; omega) | (have := HAS.out; omega)⟩
            have hsb := HSB.out.mono (S' := Apart wo.heap.size aZ) fun d hd _ => hne d hd
            have hrf : RF wo aZ a F AB cb BL none 0 [] true (((((wL.setCell ⟨aZ, 0, none⟩ (.int .u32 a)).setCell ⟨aZ, 1, none⟩ (.string F)).setCell ⟨aZ, 2, none⟩ (.slice AB BL.length cb)).setCell ⟨aZ, 3, none⟩ (.slice none 0 0)).setCell ⟨aZ, 4, none⟩ (.bool true)) :=
              ⟨((((HXend.out.setCell (p := ⟨aZ, 0, none⟩) HZB.out.ge _).setCell (p := ⟨aZ, 1, none⟩) HZB.out.ge _).setCell (p := ⟨aZ, 2, none⟩) HZB.out.ge _).setCell (p := ⟨aZ, 3, none⟩) HZB.out.ge _).setCell (p := ⟨aZ, 4, none⟩) HZB.out.ge _, ((((HZB.out.bx.put0 _).put1 _).put2 _).put3 _).put4 _, Apart.set (Apart.set (Apart.set (Apart.set (Apart.set hsb)))), Sl.nil, HZB.out.ge⟩
            go_wp2
            go_meet
            exact ⟨aZ, AB, cb, BL, rfl, HBL.out, hid hrf, HBA, HBM⟩
    case' g1qb9x5 =>
      go_simp
      obtain ⟨wL, aZ, hA1, hsz, hEg1q1, hge, hob⟩ := extAllocF HXg1q_0.out
      refine Eq.mpr (congrArg (K _) hA1) ?_
      first | rw [hsz] | (have hq : wo.heap.size = aZ := hsz; rw [hq]; clear hq) | skip
      have HZB := hid (show ZBF wo.heap.size aZ wL from ⟨hob, hge⟩)
      try have HAL := hid (show hi ≤ aZ from Nat.le_trans HHI.out (Nat.le_of_eq hsz))
      clear hA1 hsz hge hob
      have HXg1q_1 := hid (HXg1q_0.out.trans hEg1q1)
      clear hEg1q1
      refine hK.out _ _ (keepT HXg1q_1.out) (fun hSg1q1 => ?_)
      clear hK K
      try simp only [Act.put, List.setIfInBounds_toArray, List.set_cons_zero, List.set_cons_succ]
      refine wpAnyH_ready (rs := [2]) (by kernel_rfl) (by simp) ?_
      refine (AllReadyH.consL rfl (fun K hK => ?g1qb2x15) AllReadyH.nil)
      case' g1qb2x15 =>
        go_simp
        go_at_call 42
        refine (HHX.out _).mono ?_
        rintro e wL ⟨hEg1q2, rfl⟩
        have HXg1q_2 := hid (HXg1q_1.out.trans hEg1q2)
        have HZB := hid (HZB.out.ext hEg1q2)
        clear hEg1q2
        refine hK.out _ _ (keepT HXg1q_2.out) (fun hSg1q2 => ?_)
        clear hK K
        try simp only [Act.put, List.setIfInBounds_toArray, List.set_cons_zero, List.set_cons_succ]
        refine wpAnyH_takeL (i := 3) (v := ?g1qv3x16) rfl (by kernel_rfl) (by kernel_rfl) (by kernel_rfl) (fun _ _ _ h => h) (Or.inl ⟨by rfl, ?g1qy3x16⟩) (by assumption) ?g1qr3x16
        case g1qy3x16 => first | (intro w hSw; (try dsimp only at hSw); go_simp; done) | (intro w hSw; (try dsimp only at hSw); go_simp; with_reducible rfl)
        case' g1qr3x16 => try simp only [Act.put, List.setIfInBounds_toArray, List.set_cons_zero, List.set_cons_succ]
        refine wpAnyH_takeL (i := 4) (v := ?g1qv4x17) rfl (by kernel_rfl) (by kernel_rfl) (by kernel_rfl) (fun _ _ _ h => h) (Or.inl ⟨by rfl, ?g1qy4x17⟩) (by assumption) ?g1qr4x17
        case g1qy4x17 => first | (intro w hSw; (try dsimp only at hSw); go_simp; done) | (intro w hSw; (try dsimp only at hSw); go_simp; with_reducible rfl)
        case' g1qr4x17 => try simp only [Act.put, List.setIfInBounds_toArray, List.set_cons_zero, List.set_cons_succ]
        refine wpAnyH_ready (rs := [7]) (by kernel_rfl) (by simp) ?_
        refine (AllReadyH.consL rfl (fun K hK => ?g1qb7x18) AllReadyH.nil)
        case' g1qb7x18 =>
          go_simp
          go_at_call 43
          obtain ⟨lo, hlo, hwlo⟩ := rk_lo HXg1q_2.out
          try have HAS := hid (show aZ < lo from by rw [hlo]; exact HZB.out.bx.lt)
          have HWLO := hid hwlo
          refine (HBK.out _ HXg1q_2.out).mono ?_
          rintro e wL ⟨hEg1q3, AB, cb, BL, rfl, hsb, hba, hbm, hbl⟩
          obtain ⟨hi, hhi⟩ : ∃ hi, wL.heap.size = hi := ⟨_, rfl⟩
          have HSB := hid (hsb.mono (S' := fun d => lo ≤ d ∧ d < hi) fun d hd hc => ⟨by rw [hlo]; exact hd, by rw [← hhi]; exact hc.lt⟩)
          have HHI := hid (show ZGe hi wL from Nat.le_of_eq hhi.symm)
          have HBA := hid hba
          have HBM := hid hbm
          have HBL : Hid (BL.length ≤ 20) := hid (by have := HLN.out; omega)
          clear hsb hhi hba hbm hbl hlo hwlo
          have HXg1q_3 := hid (HXg1q_2.out.trans hEg1q3)
          have HZB := hid (HZB.out.ext hEg1q3)
          clear hEg1q3
          refine hK.out _ _ (keepT HXg1q_3.out) (fun hSg1q3 => ?_)
          clear hK K
          try simp only [Act.put, List.setIfInBounds_toArray, List.set_cons_zero, List.set_cons_succ]
          refine wpAnyH_takeL (i := 8) (v := ?g1qv8x19) rfl (by kernel_rfl) (by kernel_rfl) (by kernel_rfl) (fun _ _ _ h => h) (Or.inl ⟨by rfl, ?g1qy8x19⟩) (by assumption) ?g1qr8x19
          case g1qy8x19 => first | (intro w hSw; (try dsimp only at hSw); go_simp; done) | (intro w hSw; (try dsimp only at hSw); go_simp; with_reducible rfl)
          case' g1qr8x19 => try simp only [Act.put, List.setIfInBounds_toArray, List.set_cons_zero, List.set_cons_succ]
          refine wpAnyH_ready (rs := [10]) (by kernel_rfl) (by simp) ?_
          refine (AllReadyH.consL rfl (fun K hK => ?g1qb10x20) AllReadyH.nil)
          case' g1qb10x20 =>
            have HXend := HXg1q_3
            have z0 := HZB.out.bx.c0
            have z1 := HZB.out.bx.c1
            have z2 := HZB.out.bx.c2
            have z3 := HZB.out.bx.c3
            have z4 := HZB.out.bx.c4
            have zf := HZB.out.bx.fz
            go_simp
            refine hK.out _ _ trivial (fun hSg1q4 => ?_)
            clear hK K
            try simp only [Act.put, List.setIfInBounds_toArray, List.set_cons_zero, List.set_cons_succ]
            refine wpAnyH_done (by kernel_rfl) ?_ _
            have hne : ∀ d, lo ≤ d ∧ d < hi → Apart wo.heap.size aZ d := fun d hd => ⟨Nat.le_trans HWLO.out hd.1, fun e => by first | (have := HAL.out; omega) | (have := HAS.out; omega)⟩
            have hsb := HSB.out.mono (S' := Apart wo.heap.size aZ) fun d hd _ => hne d hd
            have hrf : RF wo aZ a F AB cb BL none 0 [] true (((((wL.setCell ⟨aZ, 0, none⟩ (.int .u32 a)).setCell ⟨aZ, 1, none⟩ (.string F)).setCell ⟨aZ, 2, none⟩ (.slice AB BL.length cb)).setCell ⟨aZ, 3, none⟩ (.slice none 0 0)).setCell ⟨aZ, 4, none⟩ (.bool true)) :=
              ⟨((((HXend.out.setCell (p := ⟨aZ, 0, none⟩) HZB.out.ge _).setCell (p := ⟨aZ, 1, none⟩) HZB.out.ge _).setCell (p := ⟨aZ, 2, none⟩) HZB.out.ge _).setCell (p := ⟨aZ, 3, none⟩) HZB.out.ge _).setCell (p := ⟨aZ, 4, none⟩) HZB.out.ge _, ((((HZB.out.bx.put0 _).put1 _).put2 _).put3 _).put4 _, Apart.set (Apart.set (Apart.set (Apart.set (Apart.set hsb)))), Sl.nil, HZB.out.ge⟩
            go_wp2
            go_meet
            exact ⟨aZ, AB, cb, BL, rfl, HBL.out, hid hrf, HBA, HBM⟩
  case rest =>
    obtain ⟨p, AB, cb, BL, rfl, hbl, HRF, HBP, HBM⟩ := hcut
    obtain ⟨o, ho⟩ : ∃ o, atSy l a = o := ⟨_, rfl⟩
    have HO := hid ho
    have HAT := hid (at6_any wc Y ny cy l (HY.out.ext HRF.out.ext) a)
    rw [ho] at HAT
    clear ho hex hap k2 k3 k4 hl9 hH2
    go_wp2_with fail
    refine (HAT.out).mono ?_
    rintro e w6 ⟨hx6, rfl⟩
    have HRF6 := hid (HRF.out.more hx6)
    obtain ⟨s0, hs0⟩ : ∃ s0, o.getD Sy.zero = s0 := ⟨_, rfl⟩
    rw [hs0]
    have HS0 := hid hs0
    unfold syVal
    obtain ⟨W7, hW7⟩ : ∃ W7, w6.alloc (.cells #[.string s0.name, .int .u32 s0.addr, .int .i64 s0.kind] 48) = W7 := ⟨_, rfl⟩
    have hE7 : Ext w6 W7 := by rw [← hW7]; exact (Ext.refl w6).alloc _
    have y0 : W7.cell? ⟨w6.heap.size, 0, none⟩ = some (.string s0.name) := by rw [← hW7]; simp [go_sem]
    have HRF7 := hid (HRF6.out.more hE7)
    clear hx6 hs0 hE7
    go_upto_if 31 with fail
    clear hW7
    go_cut [] from 32 to 34 (fun wx => Hid (RF wo p a nm AB cb BL none 0 [] true wx))
    case first =>
      cases o with
      | none =>
        have HNF : Hid (F = nm) := hid (by rw [← HNM.out]; unfold fnName; rw [HO.out]; exact HFF.out.symm)
        clear y0
        go_wp2
        go_meet
        rw [← HNF.out]
        exact HRF7
      | some s =>
        have HNF : Hid (s0.name = nm) := hid (by rw [← HNM.out]; unfold fnName; rw [HO.out, ← HS0.out]; rfl)
        have z1 := HRF7.out.bx.c1
        have zf := HRF7.out.bx.fz
        have HNN := hid (HRF7.out.name s0.name)
        go_wp2
        go_meet
        rw [← HNF.out]
        exact HNN
    case rest =>
      clear y0
      obtain ⟨NB, hNB⟩ : ∃ NB, BL.length = NB := ⟨_, rfl⟩
      have HNB := hid hNB
      rw [hNB] at hbl
      clear hNB
      go_wp2
      go_loopw [10] (fun i wr => ∃ (q : Nat) (AC : Option Addr) (cc : Nat) (C : List Nat) (L : Bool), q ≤ NB ∧ i = .int .i64 q ∧ Hid (RF wo p a nm AB cb BL AC cc C L wr) ∧ Hid (RefF b BL q C L)) (fun i _ => NB - (intOf i).toNat)
      case atStart => exact ⟨0, none, 0, [], true, by omega, rfl, hcut, hid (RefF.start b BL)⟩
      case round =>
        obtain ⟨q, AC, cc, C0, L0, hq, rfl, HR, HF0⟩ := hrel
        have hU : ∃ U, U = wr := ⟨_, rfl⟩
        obtain ⟨U, rfl⟩ := hU
        have p2 := HR.out.bx.c2
        rw [HNB.out] at p2
        by_cases h1 : q < NB
        · obtain ⟨x, hx⟩ : ∃ x, BL[q]? = some x := ⟨_, List.getElem?_eq_getElem (by have := HNB.out; omega)⟩
          have hsb := HR.out.sb
          rw [HNB.out] at hsb
          obtain ⟨bb, ob, rfl, cx, hx32⟩ := Sl.num_at hsb hx
          obtain ⟨s, hs⟩ := Option.isSome_iff_exists.1 ((HBM.out x).1 (List.mem_of_getElem? hx)).ends
          have HXQ := hid hx
          have HSS := hid hs
          clear hx hsb hs
          go_wp2_with fail
          refine (blkof_some U A n c b (HB.out.ext HR.out.ext) x s HSS.out).mono ?_
          rintro e w9 ⟨rfl, k5, hk5, rfl⟩
          have hk5n := (List.getElem?_eq_some_iff.1 hk5).1
          have hk5N : k5 < n := by have := HLN.out; omega
          obtain ⟨ba, oa, A1, d1, A2, d2, A3, d3, rfl, hin, -, hca, h32, -, e0, e1, e2, e3, e4⟩ := Sl.bs_at HB.out hk5
          have e0 := HR.out.ext.cell e0
          have e1 := HR.out.ext.cell e1
          have e2 := HR.out.ext.cell e2
          have e3 := HR.out.ext.cell e3
          have e4 := HR.out.ext.cell e4
          have hoks := HOK.out s (List.mem_of_getElem? hk5)
          have HSM := hid (List.mem_of_getElem? hk5)
          obtain ⟨ni, hni⟩ : ∃ ni, s.ins.length = ni := ⟨_, rfl⟩
          obtain ⟨ns, hns⟩ : ∃ ns, s.succ.length = ns := ⟨_, rfl⟩
          obtain ⟨nq, hnq⟩ : ∃ nq, s.calls.length = nq := ⟨_, rfl⟩
          rw [hni] at e2 hin
          rw [hns] at e3
          rw [hnq] at e4 hca
          have hni20 : ni ≤ 20 := by rw [← hni]; exact hoks.1
          have hnq20 : nq ≤ 20 := by rw [← hnq]; exact hoks.2.2.1
          have hcc1 := hin.cap
          have hcc2 := hca.cap
          have HNI := hid hni
          have HNQ := hid hnq
          have HIN := hid hin
          have HCA := hid hca
          have HG12 := hid hoks.2.2.2
          obtain ⟨W1, hW1⟩ : ∃ W1, U.alloc (.cells #[.int .u32 s.addr, .int .u32 s.end_, .slice A1 ni d1, .slice A2 ns d2, .slice A3 nq d3] 46) = W1 := ⟨_, rfl⟩
          have hE1 : Ext U W1 := by rw [← hW1]; exact (Ext.refl U).alloc _
          have y2 : W1.cell? ⟨U.heap.size, 2, none⟩ = some (.slice A1 ni d1) := by rw [← hW1]; simp [go_sem]
          have y4 : W1.cell? ⟨U.heap.size, 4, none⟩ = some (.slice A3 nq d3) := by rw [← hW1]; simp [go_sem]
          have HR1 := hid (HR.out.more hE1)
          have HYY := hid (And.intro y2 y4)
          have HNE : Hid (p ≠ U.heap.size) := hid (by have := HR.out.bx.lt; omega)
          have HLEN : Hid (∀ C : List Nat, C.Pairwise (· < ·) → (∀ c ∈ C, c ∈ C0 ∨ c ∈ ownCalls s) → C.length ≤ 5200) := hid (fun C hC hm => calls_len (by have := HLN.out; omega) HOK.out hC (fun c hc => by
            rcases hm c hc with h | h
            · obtain ⟨y, _, t, ht, hy⟩ := (HF0.out.calls c).1 h
              exact allC_mem (blkA_mem ht).1 hy
            · exact allC_mem HSM.out h))
          have HC0 := hid HF0.out.asc
          clear hk5 hk5n hoks hni hns hnq hin hca hE1 y2
          go_wp2
          clear hW1 y4 p2 e0 e1 e2 e3 e4 cx
          go_loopw [12] (fun i wr => ∃ (k : Nat) (AC : Option Addr) (cc : Nat) (C : List Nat), k ≤ nq ∧ i = .int .i64 k ∧ Hid (RF wo p a nm (some ⟨bb, ob, none⟩) cb BL AC cc C L0 wr) ∧ Hid (Ins2 C0 C ((s.calls.take k).flatten)) ∧ Hid (wr.cell? ⟨U.heap.size, 2, none⟩ = some (.slice A1 ni d1) ∧ wr.cell? ⟨U.heap.size, 4, none⟩ = some (.slice A3 nq d3))) (fun i _ => nq - (intOf i).toNat)
          case atStart => exact ⟨0, AC, cc, C0, by omega, rfl, HR1, hid (Ins2.nil HC0.out), HYY⟩
          case round =>
            obtain ⟨k, AC2, cc2, C2, hk, rfl, HR2, HI2, HY2⟩ := hrel
            have y4 := HY2.out.2
            by_cases h2 : k < nq
            · obtain ⟨g, hg⟩ : ∃ g, s.calls[k]? = some g := ⟨_, List.getElem?_eq_getElem (by have := HNQ.out; omega)⟩
              obtain ⟨b4, o4, A5, d5, rfl, c5, hs5⟩ := Sl_ss_at HCA.out hg
              obtain ⟨ng, hng⟩ : ∃ ng, g.length = ng := ⟨_, rfl⟩
              rw [hng] at c5 hs5
              have hc5 := hs5.cap
              have hng12 : ng ≤ 12 := by rw [← hng]; exact HG12.out g (List.mem_of_getElem? hg)
              have HNG := hid hng
              have HGK := hid hg
              have HS5 := hid hs5
              have HC5 := hid c5
              clear hg hs5 hng c5
              go_wp2
              clear y4
              go_loopw [13] (fun i wr => ∃ (j : Nat) (AC : Option Addr) (cc : Nat) (C : List Nat), j ≤ ng ∧ i = .int .i64 j ∧ Hid (RF wo p a nm (some ⟨bb, ob, none⟩) cb BL AC cc C L0 wr) ∧ Hid (Ins2 C0 C ((s.calls.take k).flatten ++ g.take j)) ∧ Hid (wr.cell? ⟨U.heap.size, 2, none⟩ = some (.slice A1 ni d1) ∧ wr.cell? ⟨U.heap.size, 4, none⟩ = some (.slice (some ⟨b4, o4, none⟩) nq d3))) (fun i _ => ng - (intOf i).toNat)
              case atStart => exact ⟨0, AC2, cc2, C2, by omega, rfl, HR2, hid (HI2.out.same (by simp)), HY2⟩
              case round =>
                obtain ⟨j, AC3, cc3, C3, hj, rfl, HR3, HI3, HY3⟩ := hrel
                have y4 := HY3.out.2
                have c5 := HR3.out.ext.cell HC5.out
                by_cases h3 : j < ng
                · obtain ⟨y, hy⟩ : ∃ y, g[j]? = some y := ⟨_, List.getElem?_eq_getElem (by have := HNG.out; omega)⟩
                  obtain ⟨b6, o6, rfl, cy, hy32⟩ := Sl.num_at (HS5.out.ext HR3.out.ext) hy
                  have HYJ := hid hy
                  have hl3 := HLEN.out C3 HI3.out.1 (fun c hc => by
                    rcases (HI3.out.2 c).1 hc with h | h
                    · exact .inl h
                    · refine .inr ?_
                      rw [ownCalls_eq]
                      refine List.mem_append_right _ ?_
                      rcases List.mem_append.1 h with h | h
                      · exact flat_take_sub h
                      · exact List.mem_flatten.2 ⟨g, List.mem_of_getElem? HGK.out, List.mem_of_mem_take h⟩)
                  obtain ⟨N3, hN3⟩ : ∃ N3, C3.length = N3 := ⟨_, rfl⟩
                  have p3 := HR3.out.bx.c3
                  have hsc := HR3.out.sc
                  rw [hN3] at hl3 p3 hsc
                  have HSC := hid (hsc.ext (Ext.refl wr).drew)
                  have HN3 := hid hN3
                  have HRD := hid (HR3.out.more (Ext.refl wr).drew)
                  have hap : ∀ d, wr.drew.heap.size ≤ d → Apart wo.heap.size p d := fun d hd => ⟨Nat.le_trans HRD.out.ext.size hd, fun e => by have := HRD.out.bx.lt; omega⟩
                  have HAP := hid hap
                  clear hy hsc hN3 hap
                  go_upto_region 15 with fail
                  refine wp_region_split 12 (by kernel_rfl) rfl rfl (by kernel_rfl) (fun w' => w'.cell? ⟨p, 3, none⟩ = some (.slice AC3 N3 cc3) ∧ w'.cell? ⟨U.heap.size, 4, none⟩ = some (.slice (some ⟨b4, o4, none⟩) nq d3) ∧ w'.cell? ⟨b4, o4 + k, none⟩ = some (.slice (some ⟨b6, o6, none⟩) ng d5) ∧ w'.cell? ⟨b6, o6 + j, none⟩ = some (.int .u32 y)) ⟨p3, y4, c5, cy⟩ (fun hSg2q0 => ?_)
                  refine wpAnyH_takeL (i := 0) (v := ?g2qv0) rfl (by kernel_rfl) (by kernel_rfl) (by kernel_rfl) (fun _ _ _ h => h) (Or.inl ⟨by rfl, ?g2qy0⟩) (by assumption) ?g2qr0
                  case g2qy0 => first | (intro w hSw; (try dsimp only at hSw); go_simp; done) | (intro w hSw; (try dsimp only at hSw); go_simp; with_reducible rfl)
                  case' g2qr0 => try simp only [Act.put, List.setIfInBounds_toArray, List.set_cons_zero, List.set_cons_succ]
                  refine wpAnyH_takeL (i := 1) (v := ?g2qv1) rfl (by kernel_rfl) (by kernel_rfl) (by kernel_rfl) (fun _ _ _ h => h) (Or.inl ⟨by rfl, ?g2qy1⟩) (by assumption) ?g2qr1
                  case g2qy1 => first | (intro w hSw; (try dsimp only at hSw); go_simp; done) | (intro w hSw; (try dsimp only at hSw); go_simp; with_reducible rfl)
                  case' g2qr1 => try simp only [Act.put, List.setIfInBounds_toArray, List.set_cons_zero, List.set_cons_succ]
                  refine wpAnyH_takeL (i := 2) (v := ?g2qv2) rfl (by kernel_rfl) (by kernel_rfl) (by kernel_rfl) (fun _ _ _ h => h) (Or.inl ⟨by rfl, ?g2qy2⟩) (by assumption) ?g2qr2
                  case g2qy2 => first | (intro w hSw; (try dsimp only at hSw); go_simp; done) | (intro w hSw; (try dsimp only at hSw); go_simp; with_reducible rfl)
                  case' g2qr2 => try simp only [Act.put, List.setIfInBounds_toArray, List.set_cons_zero, List.set_cons_succ]
                  refine wpAnyH_takeL (i := 3) (v := ?g2qv3) rfl (by kernel_rfl) (by kernel_rfl) (by kernel_rfl) (fun _ _ _ h => h) (Or.inl ⟨by rfl, ?g2qy3⟩) (by assumption) ?g2qr3
                  case g2qy3 => first | (intro w hSw; (try dsimp only at hSw); go_simp; done) | (intro w hSw; (try dsimp only at hSw); go_simp; with_reducible rfl)
                  case' g2qr3 => try simp only [Act.put, List.setIfInBounds_toArray, List.set_cons_zero, List.set_cons_succ]
                  refine wpAnyH_takeL (i := 4) (v := ?g2qv4) rfl (by kernel_rfl) (by kernel_rfl) (by kernel_rfl) (fun _ _ _ h => h) (Or.inl ⟨by rfl, ?g2qy4⟩) (by assumption) ?g2qr4
                  case g2qy4 => first | (intro w hSw; (try dsimp only at hSw); go_simp; done) | (intro w hSw; (try dsimp only at hSw); go_simp; with_reducible rfl)
                  case' g2qr4 => try simp only [Act.put, List.setIfInBounds_toArray, List.set_cons_zero, List.set_cons_succ]
                  refine wpAnyH_takeL (i := 5) (v := ?g2qv5) rfl (by kernel_rfl) (by kernel_rfl) (by kernel_rfl) (fun _ _ _ h => h) (Or.inl ⟨by rfl, ?g2qy5⟩) (by assumption) ?g2qr5
                  case g2qy5 => first | (intro w hSw; (try dsimp only at hSw); go_simp; done) | (intro w hSw; (try dsimp only at hSw); go_simp; with_reducible rfl)
                  case' g2qr5 => try simp only [Act.put, List.setIfInBounds_toArray, List.set_cons_zero, List.set_cons_succ]
                  refine wpAnyH_takeL (i := 6) (v := ?g2qv6) rfl (by kernel_rfl) (by kernel_rfl) (by kernel_rfl) (fun _ _ _ h => h) (Or.inl ⟨by rfl, ?g2qy6⟩) (by assumption) ?g2qr6
                  case g2qy6 => first | (intro w hSw; (try dsimp only at hSw); go_simp; done) | (intro w hSw; (try dsimp only at hSw); go_simp; with_reducible rfl)
                  case' g2qr6 => try simp only [Act.put, List.setIfInBounds_toArray, List.set_cons_zero, List.set_cons_succ]
                  refine wpAnyH_takeL (i := 7) (v := ?g2qv7) rfl (by kernel_rfl) (by kernel_rfl) (by kernel_rfl) (fun _ _ _ h => h) (Or.inl ⟨by rfl, ?g2qy7⟩) (by assumption) ?g2qr7
                  case g2qy7 => first | (intro w hSw; (try dsimp only at hSw); go_simp; done) | (intro w hSw; (try dsimp only at hSw); go_simp; with_reducible rfl)
                  case' g2qr7 => try simp only [Act.put, List.setIfInBounds_toArray, List.set_cons_zero, List.set_cons_succ]
                  refine wpAnyH_takeL (i := 8) (v := ?g2qv8) rfl (by kernel_rfl) (by kernel_rfl) (by kernel_rfl) (fun _ _ _ h => h) (Or.inl ⟨by rfl, ?g2qy8⟩) (by assumption) ?g2qr8
                  case g2qy8 => first | (intro w hSw; (try dsimp only at hSw); go_simp; done) | (intro w hSw; (try dsimp only at hSw); go_simp; with_reducible rfl)
                  case' g2qr8 => try simp only [Act.put, List.setIfInBounds_toArray, List.set_cons_zero, List.set_cons_succ]
                  refine wpAnyH_takeL (i := 9) (v := ?g2qv9) rfl (by kernel_rfl) (by kernel_rfl) (by kernel_rfl) (fun _ _ _ h => h) (Or.inl ⟨by rfl, ?g2qy9⟩) (by assumption) ?g2qr9
                  case g2qy9 => first | (intro w hSw; (try dsimp only at hSw); go_simp; done) | (intro w hSw; (try dsimp only at hSw); go_simp; with_reducible rfl)
                  case' g2qr9 => try simp only [Act.put, List.setIfInBounds_toArray, List.set_cons_zero, List.set_cons_succ]
                  refine wpAnyH_ready (rs := [10]) (by kernel_rfl) (by simp) ?_
                  refine AllReadyH.consL rfl (fun K hK => ?_) AllReadyH.nil
                  go_simp
                  go_at_call 20
                  refine (inserts_any _ wr.drew wr.drew (Ext.refl _) HAP.out AC3 N3 cc3 C3 HSC.out (by omega) y hy32).mono ?_
                  rintro e w9 ⟨hx9, A9, c9, rfl, hs9⟩
                  have HX9 := hid hx9
                  have HS9 := hid hs9
                  clear hx9 hs9
                  refine hK.out _ _ ⟨HX9.out.cell p3, HX9.out.cell y4, HX9.out.cell c5, HX9.out.cell cy⟩ (fun hSg2q1 => ?_)
                  clear hK K
                  try simp only [Act.put, List.setIfInBounds_toArray, List.set_cons_zero, List.set_cons_succ]
                  refine wpAnyH_takeL (i := 11) (v := ?g2qv11) rfl (by kernel_rfl) (by kernel_rfl) (by kernel_rfl) (fun _ _ _ h => h) (Or.inl ⟨by rfl, ?g2qy11⟩) (by assumption) ?g2qr11
                  case g2qy11 => first | (intro w hSw; (try dsimp only at hSw); go_simp; done) | (intro w hSw; (try dsimp only at hSw); go_simp; with_reducible rfl)
                  case' g2qr11 => try simp only [Act.put, List.setIfInBounds_toArray, List.set_cons_zero, List.set_cons_succ]
                  refine wpAnyH_done (by kernel_rfl) ?_ _
                  change wpList _ _ _ _ _ _
                  have hr9 := HRD.out.more HX9.out
                  have p3 := hr9.bx.c3
                  rw [HN3.out] at p3
                  have pf := hr9.bx.fz
                  have HC9 := hid (hr9.calls HS9.out)
                  have HY9 := hid (And.intro ((World.cell?_setCell_other (a := ⟨p, 3, none⟩) (b := ⟨U.heap.size, 2, none⟩) w9 (.slice A9 (insOf C3 y).length c9) (fun e => HNE.out (congrArg Addr.block e))).trans (HX9.out.cell ((Ext.refl wr).drew.cell HY3.out.1))) ((World.cell?_setCell_other (a := ⟨p, 3, none⟩) (b := ⟨U.heap.size, 4, none⟩) w9 (.slice A9 (insOf C3 y).length c9) (fun e => HNE.out (congrArg Addr.block e))).trans (HX9.out.cell ((Ext.refl wr).drew.cell HY3.out.2))))
                  clear hr9
                  go_wp2
                  first
                    | go_roundw
                    | refine ⟨?rel, ?measure⟩
                  case rel => exact ⟨j + 1, A9, c9, insOf C3 y, by omega, by go_num, HC9, hid ((HI3.out.add y).same (by rw [take_snoc' HYJ.out, List.append_assoc])), HY9⟩
                  case measure => simp [intOf]; omega
                · obtain rfl : j = ng := by omega
                  have hgt : g.take j = g := List.take_of_length_le (by have := HNG.out; omega)
                  have HGT := hid hgt
                  clear hgt
                  go_wp2
                  first
                    | go_roundw
                    | refine ⟨?rel, ?measure⟩
                  case rel => exact ⟨k + 1, AC3, cc3, C3, by omega, by go_num, HR3, hid (HI3.out.same (by rw [take_snoc' HGK.out, List.flatten_append, HGT.out]; simp)), HY3⟩
                  case measure => simp [intOf]; omega
            · obtain rfl : k = nq := by omega
              have y2 := HY2.out.1
              have HIA : Hid (Ins2 C0 C2 (s.calls.flatten ++ callsTo s.ins 0)) := hid (HI2.out.same (by rw [List.take_of_length_le (by have := HNQ.out; omega)]; simp [callsTo]))
              go_wp2
              clear y2 y4
              go_loopw [15] (fun i wr => ∃ (t : Nat) (AC : Option Addr) (cc : Nat) (C : List Nat) (L : Bool), t ≤ ni ∧ i = .int .i64 t ∧ Hid (RF wo p a nm (some ⟨bb, ob, none⟩) cb BL AC cc C L wr) ∧ Hid (Ins2 C0 C (s.calls.flatten ++ callsTo s.ins t)) ∧ Hid (L = (L0 && leafTo s.ins t))) (fun i _ => ni - (intOf i).toNat)
              case atStart => exact ⟨0, AC2, cc2, C2, L0, by omega, rfl, HR2, HIA, hid (by simp [leafTo])⟩
              case round =>
                obtain ⟨t, AC4, cc4, C4, L4, ht, rfl, HR4, HI4, HL4⟩ := hrel
                by_cases h4 : t < ni
                · obtain ⟨i, hi⟩ : ∃ i, s.ins[t]? = some i := ⟨_, List.getElem?_eq_getElem (by have := HNI.out; omega)⟩
                  obtain ⟨b7, o7, rfl, hiok, -, zw1, zw2, -⟩ := Sl.in_at HIN.out hi
                  have z1 := HR4.out.ext.cell zw1
                  have z2 := HR4.out.ext.cell zw2
                  have HZW := hid zw2
                  have hi32 := hiok.2.1
                  have HII := hid hi
                  clear hi hiok zw1 zw2
                  by_cases h23 : i.op = 23
                  · have n23 : (i.op == 23) = true := by simp [h23]
                    have HCT : Hid (callsTo s.ins (t + 1) = callsTo s.ins t ++ [i.imm]) := hid (callsTo_hit HII.out h23)
                    have HLF : Hid (false = (L0 && leafTo s.ins (t + 1))) := hid (by rw [leafTo_step HII.out, h23]; simp)
                    have hl4 := HLEN.out C4 HI4.out.1 (fun c hc => by
                      rcases (HI4.out.2 c).1 hc with h | h
                      · exact .inl h
                      · refine .inr ?_
                        rw [ownCalls_eq]
                        rcases List.mem_append.1 h with h | h
                        · exact List.mem_append_right _ h
                        · exact List.mem_append_left _ (callsTo_sub h))
                    obtain ⟨N4, hN4⟩ : ∃ N4, C4.length = N4 := ⟨_, rfl⟩
                    have p3 := HR4.out.bx.c3
                    have hsc := HR4.out.sc
                    rw [hN4] at hl4 p3 hsc
                    have HSC := hid (hsc.ext (Ext.refl wr).drew)
                    have HN4 := hid hN4
                    have HRD := hid (HR4.out.more (Ext.refl wr).drew)
                    have hap : ∀ d, wr.drew.heap.size ≤ d → Apart wo.heap.size p d := fun d hd => ⟨Nat.le_trans HRD.out.ext.size hd, fun e => by have := HRD.out.bx.lt; omega⟩
                    have HAP := hid hap
                    clear hsc hN4 hap h23
                    go_upto_region 21 with fail
                    refine wp_region_split 9 (by kernel_rfl) rfl rfl (by kernel_rfl) (fun w' => w'.cell? ⟨p, 3, none⟩ = some (.slice AC4 N4 cc4) ∧ w'.cell? ⟨b7, o7 + t * 9 + 1, none⟩ = some (.int .u32 i.imm) ∧ w'.cell? ⟨b7, o7 + t * 9 + 2, none⟩ = some (.int .i64 i.op)) ⟨p3, z1, z2⟩ (fun hSg3q0 => ?_)
                    refine wpAnyH_takeL (i := 0) (v := ?g3qv0) rfl (by kernel_rfl) (by kernel_rfl) (by kernel_rfl) (fun _ _ _ h => h) (Or.inl ⟨by rfl, ?g3qy0⟩) (by assumption) ?g3qr0
                    case g3qy0 => first | (intro w hSw; (try dsimp only at hSw); go_simp; done) | (intro w hSw; (try dsimp only at hSw); go_simp; with_reducible rfl)
                    case' g3qr0 => try simp only [Act.put, List.setIfInBounds_toArray, List.set_cons_zero, List.set_cons_succ]
                    refine wpAnyH_takeL (i := 1) (v := ?g3qv1) rfl (by kernel_rfl) (by kernel_rfl) (by kernel_rfl) (fun _ _ _ h => h) (Or.inl ⟨by rfl, ?g3qy1⟩) (by assumption) ?g3qr1
                    case g3qy1 => first | (intro w hSw; (try dsimp only at hSw); go_simp; done) | (intro w hSw; (try dsimp only at hSw); go_simp; with_reducible rfl)
                    case' g3qr1 => try simp only [Act.put, List.setIfInBounds_toArray, List.set_cons_zero, List.set_cons_succ]
                    refine wpAnyH_takeL (i := 2) (v := ?g3qv2) rfl (by kernel_rfl) (by kernel_rfl) (by kernel_rfl) (fun _ _ _ h => h) (Or.inl ⟨by rfl, ?g3qy2⟩) (by assumption) ?g3qr2
                    case g3qy2 => first | (intro w hSw; (try dsimp only at hSw); go_simp; done) | (intro w hSw; (try dsimp only at hSw); go_simp; with_reducible rfl)
                    case' g3qr2 => try simp only [Act.put, List.setIfInBounds_toArray, List.set_cons_zero, List.set_cons_succ]
                    refine wpAnyH_takeL (i := 3) (v := ?g3qv3) rfl (by kernel_rfl) (by kernel_rfl) (by kernel_rfl) (fun _ _ _ h => h) (Or.inl ⟨by rfl, ?g3qy3⟩) (by assumption) ?g3qr3
                    case g3qy3 => first | (intro w hSw; (try dsimp only at hSw); go_simp; done) | (intro w hSw; (try dsimp only at hSw); go_simp; with_reducible rfl)
                    case' g3qr3 => try simp only [Act.put, List.setIfInBounds_toArray, List.set_cons_zero, List.set_cons_succ]
                    refine wpAnyH_takeL (i := 4) (v := ?g3qv4) rfl (by kernel_rfl) (by kernel_rfl) (by kernel_rfl) (fun _ _ _ h => h) (Or.inl ⟨by rfl, ?g3qy4⟩) (by assumption) ?g3qr4
                    case g3qy4 => first | (intro w hSw; (try dsimp only at hSw); go_simp; done) | (intro w hSw; (try dsimp only at hSw); go_simp; with_reducible rfl)
                    case' g3qr4 => try simp only [Act.put, List.setIfInBounds_toArray, List.set_cons_zero, List.set_cons_succ]
                    refine wpAnyH_takeL (i := 5) (v := ?g3qv5) rfl (by kernel_rfl) (by kernel_rfl) (by kernel_rfl) (fun _ _ _ h => h) (Or.inl ⟨by rfl, ?g3qy5⟩) (by assumption) ?g3qr5
                    case g3qy5 => first | (intro w hSw; (try dsimp only at hSw); go_simp; done) | (intro w hSw; (try dsimp only at hSw); go_simp; with_reducible rfl)
                    case' g3qr5 => try simp only [Act.put, List.setIfInBounds_toArray, List.set_cons_zero, List.set_cons_succ]
                    refine wpAnyH_takeL (i := 6) (v := ?g3qv6) rfl (by kernel_rfl) (by kernel_rfl) (by kernel_rfl) (fun _ _ _ h => h) (Or.inl ⟨by rfl, ?g3qy6⟩) (by assumption) ?g3qr6
                    case g3qy6 => first | (intro w hSw; (try dsimp only at hSw); go_simp; done) | (intro w hSw; (try dsimp only at hSw); go_simp; with_reducible rfl)
                    case' g3qr6 => try simp only [Act.put, List.setIfInBounds_toArray, List.set_cons_zero, List.set_cons_succ]
                    refine wpAnyH_ready (rs := [7]) (by kernel_rfl) (by simp) ?_
                    refine AllReadyH.consL rfl (fun K hK => ?_) AllReadyH.nil
                    go_simp
                    go_at_call 20
                    refine (inserts_any _ wr.drew wr.drew (Ext.refl _) HAP.out AC4 N4 cc4 C4 HSC.out (by omega) i.imm hi32).mono ?_
                    rintro e w9 ⟨hx9, A9, c9, rfl, hs9⟩
                    have HX9 := hid hx9
                    have HS9 := hid hs9
                    clear hx9 hs9
                    refine hK.out _ _ ⟨HX9.out.cell p3, HX9.out.cell z1, HX9.out.cell z2⟩ (fun hSg3q1 => ?_)
                    clear hK K
                    try simp only [Act.put, List.setIfInBounds_toArray, List.set_cons_zero, List.set_cons_succ]
                    refine wpAnyH_takeL (i := 8) (v := ?g3qv8) rfl (by kernel_rfl) (by kernel_rfl) (by kernel_rfl) (fun _ _ _ h => h) (Or.inl ⟨by rfl, ?g3qy8⟩) (by assumption) ?g3qr8
                    case g3qy8 => first | (intro w hSw; (try dsimp only at hSw); go_simp; done) | (intro w hSw; (try dsimp only at hSw); go_simp; with_reducible rfl)
                    case' g3qr8 => try simp only [Act.put, List.setIfInBounds_toArray, List.set_cons_zero, List.set_cons_succ]
                    refine wpAnyH_done (by kernel_rfl) ?_ _
                    change wpList _ _ _ _ _ _
                    have hr9 := HRD.out.more HX9.out
                    have p3 := hr9.bx.c3
                    rw [HN4.out] at p3
                    have pf := hr9.bx.fz
                    have hc9 := hr9.calls HS9.out
                    obtain ⟨W9, hW9⟩ : ∃ W9, w9.setCell ⟨p, 3, none⟩ (.slice A9 (insOf C4 i.imm).length c9) = W9 := ⟨_, rfl⟩
                    rw [hW9] at hc9
                    have z2 := hc9.ext.cell HZW.out
                    have HC9 := hid hc9
                    have p4 := hc9.bx.c4
                    have qf := hc9.bx.fz
                    have HLV := hid (hc9.leaf false)
                    (try rw [hW9])
                    go_upto_region 22 with fail
                    clear hW9 p3 pf
                    go_wp2
                    first
                      | go_roundw
                      | refine ⟨?rel, ?measure⟩
                    case rel => exact ⟨t + 1, A9, c9, insOf C4 i.imm, false, by omega, by go_num, HLV, hid ((HI4.out.add i.imm).same (by rw [HCT.out, List.append_assoc])), HLF⟩
                    case measure => simp [intOf]; omega
                  · have n23 : (i.op == 23) = false := by simp [h23]
                    have HCT : Hid (callsTo s.ins (t + 1) = callsTo s.ins t) := hid (callsTo_miss HII.out h23)
                    by_cases h24 : i.op = 24
                    · have n24 : (i.op == 24) = true := by simp [h24]
                      have HLF : Hid (false = (L0 && leafTo s.ins (t + 1))) := hid (by rw [leafTo_step HII.out, h24]; simp)
                      have p4 := HR4.out.bx.c4
                      have qf := HR4.out.bx.fz
                      have HLV := hid (HR4.out.leaf false)
                      clear h23 h24
                      go_wp2
                      first
                        | go_roundw
                        | refine ⟨?rel, ?measure⟩
                      case rel => exact ⟨t + 1, AC4, cc4, C4, false, by omega, by go_num, HLV, hid (HI4.out.same (by rw [HCT.out])), HLF⟩
                      case measure => simp [intOf]; omega
                    · have n24 : (i.op == 24) = false := by simp [h24]
                      have HLF : Hid (L4 = (L0 && leafTo s.ins (t + 1))) := hid (by rw [leafTo_step HII.out, HL4.out]; simp [h23, h24])
                      clear h23 h24
                      go_wp2
                      first
                        | go_roundw
                        | refine ⟨?rel, ?measure⟩
                      case rel => exact ⟨t + 1, AC4, cc4, C4, L4, by omega, by go_num, HR4, hid (HI4.out.same (by rw [HCT.out])), HLF⟩
                      case measure => simp [intOf]; omega
                · obtain rfl : t = ni := by omega
                  have hnx : RefF b BL (q + 1) C4 L4 := HF0.out.next HXQ.out HSS.out HI4.out.1 (fun c => by
                    rw [HI4.out.2, ownCalls_eq, HNI.out]
                    simp only [List.mem_append]
                    constructor <;> (intro h; rcases h with h | h | h <;> simp [h])) (by rw [HL4.out, ownLeaf_eq, HNI.out])
                  have HNX := hid hnx
                  clear hnx
                  go_wp2
                  first
                    | go_roundw
                    | refine ⟨?rel, ?measure⟩
                  case rel => exact ⟨q + 1, AC4, cc4, C4, L4, by omega, by go_num, HR4, HNX⟩
                  case measure => simp [intOf]; omega
        · obtain rfl : q = NB := by omega
          obtain ⟨p0, p1, p2', p3, p4, pf⟩ := HR.out.bx
          rw [HNB.out] at p2'
          obtain ⟨r0, r1, r2, r3, r4, rf⟩ := HRB.out.ext HR.out.ext
          have hl0 : C0.length ≤ 5200 := calls_len (by have := HLN.out; omega) HOK.out HF0.out.asc (fun c hc => by
            obtain ⟨y, _, t, ht, hy⟩ := (HF0.out.calls c).1 hc
            exact allC_mem (blkA_mem ht).1 hy)
          obtain ⟨NC, hNC⟩ : ∃ NC, C0.length = NC := ⟨_, rfl⟩
          rw [hNC] at p3 hl0
          have HNC := hid hNC
          clear hNC
          go_wp2
          refine bodyPost_ret (v := .agg #[.int .u32 a, .string nm, .slice AB q cb, .slice AC NC cc, .bool L0]) (by simp [results, Tryz.results22, go_sem, World.cell?_setCell_same, World.cell?_setCell_other, r0, r1, r2, r3, r4]) rfl ?_
          have hq0 : w.heap.size < p := by have := HR.out.ge; have := HWO.out; omega
          have hap : ∀ d, Apart wo.heap.size p d → Apart (w.heap.size + 1) w.heap.size d := fun d hd => ⟨by have := hd.1; have := HWO.out; omega, by have := hd.1; have := HWO.out; omega⟩
          have hsb := HR.out.sb.mono (S' := Apart (w.heap.size + 1) w.heap.size) fun d hd _ => hap d hd
          have hsc := HR.out.sc.mono (S' := Apart (w.heap.size + 1) w.heap.size) fun d hd _ => hap d hd
          have hxw : Ext w U := HE.out.trans HR.out.ext
          have hx : ∀ (j : Nat) (u : Value) (V : World), Ext w V → Ext w (V.setCell ⟨w.heap.size, j, none⟩ u) := fun j u V hV => hV.setCell (p := ⟨w.heap.size, j, none⟩) (Nat.le_refl _) u
          have hfo := HF0.out.fin (nm := nm) (by rw [HNB.out]; exact Nat.le_refl _) HBP.out HBM.out
          refine ⟨hx _ _ _ (hx _ _ _ (hx _ _ _ (hx _ _ _ (hx _ _ _ hxw)))), AB, cb, AC, cc, _, ?_, hfo, by rw [HNB.out]; exact hbl, by rw [HNC.out]; exact hl0, ?_, ?_⟩
          · show _ = Ending.returned (.agg #[.int .u32 a, .string nm, .slice AB BL.length cb, .slice AC C0.length cc, .bool L0])
            rw [HNB.out, HNC.out]
          · exact (Apart.set (Apart.set (Apart.set (Apart.set (Apart.set hsb))))).mono fun d hd _ => by have := hd.1; omega
          · exact (Apart.set (Apart.set (Apart.set (Apart.set (Apart.set hsc))))).mono fun d hd _ => by have := hd.1; omega
end Go.Proofs.YtnlmhnbogleijaaGreatDoor

namespace Go.Proofs.YtnlmhnbogleijaaGreatDoor
open Go.RowKit Go.Deco
set_option linter.unusedSimpArgs false
set_option linter.unusedVariables false

theorem info_rfn18 : (Tryz.prog.info? 41).map (fun i => (i.zero, i.size, i.bytes)) = some (some (.agg #[.int .u32 0, .string ⟨#[]⟩, .slice none 0 0, .slice none 0 0, .bool false]), 5, 80) := by kernel_rfl
/-- What the reference's Find returns. -/
def RFindPost (w : World) (b : List Bs) (es : List Nat) (l : List Sy) (e : Ending) (w' : World) : Prop :=
  Ext w w' ∧ ∃ A c fs, e = .returned (.tuple #[.slice A fs.length c, .int .i64 (findErr (checkBs b) b (asc es))]) ∧ Sl fnR w' All (.slice A fs.length c) fs ∧
    (findErr (checkBs b) b (asc es) ≠ 0 → fs = []) ∧ (findErr (checkBs b) b (asc es) = 0 → FnsOf b (fnName l) (asc es) fs)

set_option maxRecDepth 100000 in
set_option maxHeartbeats 4000000 in
theorem rfind18_any (w : World) (A E Y : Option Addr) (n c ne ce ny cy : Nat) (b : List Bs) (es : List Nat) (l : List Sy) (hl : Sl bsR w All (.slice A n c) b) (he : Sl u32R w All (.slice E ne ce) es) (hy : Sl symR w All (.slice Y ny cy) l)
    (hn : n ≤ 20) (hne : ne ≤ 20) (hok : ∀ s ∈ b, okB s) (hsz : ∀ s ∈ l, s.name.size ≤ maxLen) :
    Calls Tryz.prog 9 #[.slice A n c, .slice E ne ce, .slice Y ny cy] w (RFindPost w b es l) := by
  obtain ⟨ck, hck⟩ : ∃ ck, checkBs b = ck := ⟨_, rfl⟩
  obtain ⟨L, hL⟩ : ∃ L, asc es = L := ⟨_, rfl⟩
  obtain ⟨er, her⟩ : ∃ er, findErr ck b L = er := ⟨_, rfl⟩
  unfold RFindPost
  rw [hck, hL, her]
  have HCK := hid hck
  have HL := hid hL
  have HER := hid her
  have HB := hid hl
  have HE := hid he
  have HY := hid hy
  have HOK := hid hok
  have HSZ := hid hsz
  have hln := hl.len
  have HLN := hid hln
  have HLE := hid he.len
  have hcap := hl.cap
  have hcape := he.cap
  obtain ⟨i0, hi, hz0, hz1, hz2⟩ := info_parts info_rfn18
  have HI := hid hi
  have HZ0 := hid hz0
  have HZ1 := hid hz1
  have HZ2 := hid hz2
  clear hck hL her hl he hy hok hsz hln hi hz0 hz1 hz2
  go_enter Tryz.func9, Tryz.ntmps9
  go_wp2_with fail
  refine (rcheck17_any w A n c b HB.out).mono ?_
  rintro e w1 ⟨rfl, hx1⟩
  rw [HCK.out]
  have HX1 := hid hx1
  clear hx1
  by_cases h0 : ck = 0
  · subst h0
    have hU : ∃ U, U = w1 := ⟨_, rfl⟩
    obtain ⟨U, rfl⟩ := hU
    go_wp2
    go_loopw [9, 10] (fun v i wr => ∃ (k m : Nat) (A' : Option Addr) (c' : Nat), k ≤ ne ∧ m ≤ ne ∧ i = .int .i64 k ∧ v = .slice A' m c' ∧ Hid ((asc (es.take k)).length = m) ∧ Hid (Sl u32R wr All (.slice A' m c') (asc (es.take k))) ∧ Hid (Ext w wr)) (fun _ i _ => ne - (intOf i).toNat)
    case atStart => exact ⟨0, 0, none, 0, by omega, by omega, rfl, rfl, hid rfl, hid Sl.nil, HX1⟩
    case round =>
      obtain ⟨k, m, A', c', hk, hm, rfl, rfl, HML, HS, HX⟩ := hrel
      by_cases h1 : k < ne
      · obtain ⟨x, hx⟩ : ∃ x, es[k]? = some x := ⟨_, List.getElem?_eq_getElem (by have := HLE.out; omega)⟩
        obtain ⟨bb, off, rfl, c0, hx32⟩ := Sl.num_at (HE.out.ext HX.out) hx
        have HXK := hid hx
        have hnl : (insOf (asc (es.take k)) x).length ≤ ne := by
          rw [← asc_snoc, ← take_snoc' hx]
          have h2 := asc_len (es.take (k + 1))
          rw [List.length_take] at h2
          omega
        obtain ⟨m2, hm2⟩ : ∃ m2, (insOf (asc (es.take k)) x).length = m2 := ⟨_, rfl⟩
        rw [hm2] at hnl
        have HM2 := hid hm2
        clear hx hm2
        go_wp2_with fail
        refine (insert_any wr wr (Ext.refl _) A' m c' _ HS.out (by omega) x hx32).mono ?_
        rintro e w2 ⟨hx2, A2, c2, rfl, hs2⟩
        rw [HM2.out] at hs2 ⊢
        have HX2 := hid (HX.out.trans hx2)
        have HS2 := hid hs2
        clear hx2 hs2
        go_wp2
        first
          | go_roundw
          | refine ⟨?rel, ?measure⟩
        case rel => exact ⟨k + 1, m2, A2, c2, by omega, hnl, by go_num, rfl, hid (by rw [take_snoc' HXK.out, asc_snoc]; exact HM2.out), hid (by rw [take_snoc' HXK.out, asc_snoc]; exact HS2.out), HX2⟩
        case measure => simp [intOf]; omega
      · obtain rfl : k = ne := by omega
        have he1 : es.take k = es := List.take_of_length_le (by have := HLE.out; omega)
        rw [he1, HL.out] at HML HS
        have HLP : Hid (L.Pairwise (· < ·)) := hid (by rw [← HL.out]; exact asc_pw _)
        have hV : ∃ V, V = wr := ⟨_, rfl⟩
        obtain ⟨V, rfl⟩ := hV
        have hm64 : ¬ 64 < m := by omega
        clear he1 h1
        go_wp2
        go_loopw [11, 12] (fun v i wr => ∃ (k : Nat) (A3 : Option Addr) (c3 : Nat) (fs : List Fn18), k ≤ m ∧ i = .int .i64 k ∧ v = .slice A3 fs.length c3 ∧ Hid (fs.length = k) ∧ Hid (OwnS fnR wr V.heap.size 41 All (.slice A3 fs.length c3) fs) ∧ Hid (Ext V wr) ∧ Hid (FnsOf b (fnName l) (L.take k) fs) ∧ Hid ((L.take k).all (isB b) = true)) (fun _ i _ => m - (intOf i).toNat)
        case atStart => exact ⟨0, none, 0, [], by omega, rfl, rfl, hid rfl, hid OwnS.nil, hid (Ext.refl _), hid (by simpa using FnsOf.nil), hid (by simp)⟩
        case round =>
          obtain ⟨j, A3, c3, fs, hj, rfl, rfl, HFL, HO, HXJ, HFS, HAL⟩ := hrel
          rw [HFL.out] at HO ⊢
          by_cases h1 : j < m
          · obtain ⟨a, ha⟩ : ∃ a, L[j]? = some a := ⟨_, List.getElem?_eq_getElem (by have := HML.out; omega)⟩
            obtain ⟨ba, oa, rfl, ca, ha32⟩ := Sl.num_at (HS.out.ext HXJ.out) ha
            have HA := hid ha
            have HBR := hid (HB.out.ext (HX.out.trans HXJ.out))
            obtain ⟨o, ho⟩ : ∃ o, blkA b a = o := ⟨_, rfl⟩
            clear ha
            cases o with
            | none =>
              have HR9 : Hid (er = 9) := hid (by
                rw [← HER.out]
                unfold findErr
                rw [if_neg (by omega), if_neg (by have := HML.out; omega), if_neg]
                intro hall
                have := List.all_eq_true.1 hall a (List.mem_of_getElem? HA.out)
                unfold isB at this
                rw [ho] at this
                cases this)
              have HNN := hid ho
              clear ho
              go_wp2_with fail
              refine (blkof_none wr A n c b HBR.out a HNN.out).mono ?_
              rintro e w5 ⟨rfl, rfl⟩
              go_wp2
              go_ret2
              rw [HR9.out]
              exact ⟨HX.out.trans HXJ.out, none, 0, [], rfl, Sl.nil, fun _ => rfl, fun h => absurd h (by omega)⟩
            | some s =>
              have HSS := hid ho
              clear ho
              go_wp2_with fail
              refine (blkof_some wr A n c b HBR.out a s HSS.out).mono ?_
              rintro e w5 ⟨rfl, k5, hk5, rfl⟩
              clear hk5
              have HFC := hid (rfunction_any wr A Y n c ny cy b l HBR.out (HY.out.ext (HX.out.trans HXJ.out)) hn HOK.out a ha32)
              have HNS := hid (fnName_size HSZ.out a)
              go_wp2_with fail
              refine (HFC.out).mono ?_
              rintro e w6 ⟨hx6, A5, c5, A6, c6, f, rfl, hfn, hbl, hcl, hs5, hs6⟩
              have HXR := hid hx6
              have HX6 := hid (HXJ.out.trans hx6)
              have HFN := hid hfn
              have HOB := hid (fun g hg => (HO.out.block g hg).2)
              have HO6 := hid (HO.out.ext hx6)
              have hfe32 : f.entry < 4294967296 := by rw [hfn.entry]; exact ha32
              have hnm : f.name.size ≤ maxLen := by rw [hfn.name]; exact HNS.out
              have hrel : fnR.rel w6 (fun d => All d ∧ some d ≠ (Value.slice A3 j c3).ownBlock) [.int .u32 f.entry, .string f.name, .slice A5 f.blocks.length c5, .slice A6 f.calls.length c6, .bool f.leaf] f :=
                ⟨_, _, rfl, hs5.mono fun d hd _ => ⟨trivial, fun e => by have := HOB.out d e.symm; omega⟩, hs6.mono fun d hd _ => ⟨trivial, fun e => by have := HOB.out d e.symm; omega⟩, hfe32, hnm⟩
              have HREL := hid hrel
              have HFL2 := HFL
              clear hx6 hfn hs5 hs6 hrel hfe32 hnm
              go_wp2_with (first
                | (at_builtin; refine wpList_app1s rfl (.tmp 46) (.tmp 54) 34 rfl V.heap.size 41 i0 _ 5 80 Tryz.underlying34 HI.out HZ0.out HZ1.out HZ2.out rfl fnR rfl (.slice A3 j c3) fs rfl HO6.out w6.heap.size rfl f rfl HREL.out (by rw [HFL2.out]; omega) (by rw [HFL2.out]; omega) (by exact HX6.out.size) ?_; intro A9 c9 w9 hown9 hg9; rw [HFL2.out] at hown9 ⊢; have HO9 := hid hown9; have HX9 := hid ((HX6.out.alloc _).grown hg9 (fun q hq => (HO6.out.block _ hq).1)); clear hown9 hg9)
                | fail)
              first
                | go_roundw
                | refine ⟨?rel, ?measure⟩
              case rel =>
                refine ⟨j + 1, A9, c9, fs ++ [f], by omega, by go_num, by simp [HFL2.out], hid (by simp [HFL2.out]), hid (by simpa [HFL2.out] using HO9.out), HX9, hid ?_, hid ?_⟩
                · rw [take_snoc' HA.out]
                  exact HFS.out.snoc HFN.out
                · rw [take_snoc' HA.out, List.all_append, HAL.out]
                  simpa using isB_some HSS.out
              case measure => simp [intOf]; omega
          · obtain rfl : j = m := by omega
            have hall : L.take j = L := List.take_of_length_le (by have := HML.out; omega)
            have HR0 : Hid (er = 0) := hid (by
              have h := HAL.out
              rw [hall] at h
              rw [← HER.out]
              unfold findErr
              rw [if_neg (by omega), if_neg (by have := HML.out; omega), if_pos h])
            have hfs := HFS.out
            rw [hall] at hfs
            have HFS2 := hid hfs
            clear hfs hall
            go_wp2
            go_ret2
            rw [HR0.out]
            refine ⟨HX.out.trans HXJ.out, A3, c3, fs, by rw [HFL.out]; rfl, ?_, fun h => absurd rfl h, fun _ => HFS2.out⟩
            rw [HFL.out]
            exact HO.out.sl
  · have hz : ((ck : Int) != 0) = true := by simpa using h0
    have HF : Hid (er = ck) := hid (by rw [← HER.out]; unfold findErr; rw [if_pos h0])
    have HCZ := hid h0
    go_wp2
    go_ret2
    rw [HF.out]
    exact ⟨HX1.out, none, 0, [], rfl, Sl.nil, fun _ => rfl, fun h => absurd h HCZ.out⟩

set_option maxRecDepth 100000 in
set_option maxHeartbeats 4000000 in
theorem same18_any (w : World) (f : Fn18) (A1 A2 B1 B2 : Option Addr) (c1 c2 d1 d2 : Nat) (h1 : Sl u32R w All (.slice A1 f.blocks.length c1) f.blocks) (h2 : Sl u32R w All (.slice A2 f.calls.length c2) f.calls)
    (k1 : Sl u32R w All (.slice B1 f.blocks.length d1) f.blocks) (k2 : Sl u32R w All (.slice B2 f.calls.length d2) f.calls) :
    Calls Tryz.prog 10 #[.agg #[.int .u32 f.entry, .string f.name, .slice A1 f.blocks.length c1, .slice A2 f.calls.length c2, .bool f.leaf], .agg #[.int .u32 f.entry, .string f.name, .slice B1 f.blocks.length d1, .slice B2 f.calls.length d2, .bool f.leaf]] w (OneBool w true) := by
  have H1 := hid h1
  have H2 := hid h2
  have K1 := hid k1
  have K2 := hid k2
  obtain ⟨fe, fn, fb, fc, fl⟩ := f
  simp only [] at H1 H2 K1 K2 ⊢
  obtain ⟨nb, hnb⟩ : ∃ nb, fb.length = nb := ⟨_, rfl⟩
  obtain ⟨nc, hnc⟩ : ∃ nc, fc.length = nc := ⟨_, rfl⟩
  rw [hnb] at H1 K1 ⊢
  rw [hnc] at H2 K2 ⊢
  obtain ⟨W0, hW0⟩ : ∃ W0, (w.alloc (.cells #[.int .u32 fe, .string fn, .slice A1 nb c1, .slice A2 nc c2, .bool fl] 41)).alloc (.cells #[.int .u32 fe, .string fn, .slice B1 nb d1, .slice B2 nc d2, .bool fl] 41) = W0 := ⟨_, rfl⟩
  have hE : Ext w W0 := by rw [← hW0]; exact ((Ext.refl w).alloc _).alloc _
  have hb1 : BxF W0 w.heap.size (.int .u32 fe) (.string fn) (.slice A1 nb c1) (.slice A2 nc c2) (.bool fl) := by
    rw [← hW0]
    exact (BxF.new w _ _ _ _ _ 41).ext ((Ext.refl _).alloc _)
  have hb2 : BxF W0 (w.heap.size + 1) (.int .u32 fe) (.string fn) (.slice B1 nb d1) (.slice B2 nc d2) (.bool fl) := by
    rw [← hW0]
    have h := BxF.new (w.alloc (.cells #[.int .u32 fe, .string fn, .slice A1 nb c1, .slice A2 nc c2, .bool fl] 41)) (.int .u32 fe) (.string fn) (.slice B1 nb d1) (.slice B2 nc d2) (.bool fl) 41
    rw [World.size_alloc] at h
    exact h
  have HE := hid hE
  have HB1 := hid hb1
  have HB2 := hid hb2
  obtain ⟨p0, p1, p2, p3, p4, -⟩ := hb1
  obtain ⟨q0, q1, q2, q3, q4, -⟩ := hb2
  clear h1 h2 k1 k2 hnb hnc hE
  cases fl
  all_goals
    go_enter Tryz.func10, Tryz.ntmps10
    go_wp2_with fail
    clear hW0
    refine (words_any W0 W0 (Ext.refl _) A1 B1 nb nb c1 d1 fb fb (H1.out.ext HE.out) (K1.out.ext HE.out)).mono ?_
    rintro e w1 ⟨rfl, hx1⟩
    have hd1 : decide (fb = fb) = true := by simp
    rw [hd1]
    have HX1 := hid hx1
    have p3 := hx1.cell p3
    have q3 := hx1.cell q3
    clear hx1 hd1
    go_wp2_with fail
    refine (words_any w1 w1 (Ext.refl _) A2 B2 nc nc c2 d2 fc fc ((H2.out.ext HE.out).ext HX1.out) ((K2.out.ext HE.out).ext HX1.out)).mono ?_
    rintro e w2 ⟨rfl, hx2⟩
    have hd1 : decide (fc = fc) = true := by simp
    rw [hd1]
    have HX2 := hid ((HE.out.trans HX1.out).trans hx2)
    clear hx2 hd1
    go_wp2
    go_ret
    exact ⟨rfl, HX2.out⟩

set_option maxRecDepth 100000 in
set_option maxHeartbeats 8000000 in
theorem finds18_any (w : World) (ht : TabAt w) (A E Y : Option Addr) (n c ne ce ny cy : Nat) (b : List Bs) (es : List Nat) (l : List Sy) (hl : Sl bsR w All (.slice A n c) b) (he : Sl u32R w All (.slice E ne ce) es) (hy : Sl symR w All (.slice Y ny cy) l) :
    Calls Tryz.prog 3 #[.slice A n c, .slice E ne ce, .slice Y ny cy] w (OneBool w true) := by
  have hln := hl.len
  have hcb := hl.cap
  have hce := he.cap
  have hcy := hy.cap
  have HLN := hid hln
  have HB := hid hl
  have HE := hid he
  have HY := hid hy
  have HT := hid ht
  clear hl he hy ht hln
  go_enter Tryz.func3, Tryz.ntmps3
  go_wp2_with fail
  refine (fewb_any w A n c b HB.out).mono ?_
  rintro e w' ⟨⟨r, rfl, hr⟩, rfl⟩
  cases r with
  | false =>
    go_wp2_with fail
    refine (example_any _).mono ?_
    rintro e wz ⟨rfl, hxz⟩
    have HXZ := hid ((Ext.refl w).trans hxz)
    clear hxz
    go_wp2
    go_ret
    exact ⟨rfl, HXZ.out⟩
  | true =>
  obtain ⟨hn20, hok⟩ := hr rfl
  have HOK := hid hok
  clear hr hok
  by_cases h20 : 20 < ne
  · skip
    go_wp2_with fail
    refine (example_any _).mono ?_
    rintro e wz ⟨rfl, hxz⟩
    have HXZ := hid ((Ext.refl w).trans hxz)
    clear hxz
    go_wp2
    go_ret
    exact ⟨rfl, HXZ.out⟩
  go_wp2_with fail
  refine (fews_any w Y ny cy l HY.out).mono ?_
  rintro e w' ⟨⟨r, rfl, hr⟩, rfl⟩
  cases r with
  | false =>
    go_wp2_with fail
    refine (example_any _).mono ?_
    rintro e wz ⟨rfl, hxz⟩
    have HXZ := hid ((Ext.refl w).trans hxz)
    clear hxz
    go_wp2
    go_ret
    exact ⟨rfl, HXZ.out⟩
  | true =>
  obtain ⟨hy20, hoks⟩ := hr rfl
  have HOS : Hid (∀ s ∈ l, s.name.size ≤ maxLen) := hid (fun s hs => by have := hoks s hs; unfold maxLen; omega)
  clear hr hoks
  go_wp2_with fail
  refine (basics_any w A n c b HB.out (by omega)).mono ?_
  rintro e w1 ⟨hx1, A1, c1, rfl, hs1⟩
  have HX1 := hid hx1
  rw [← HLN.out] at hs1 ⊢
  have HS1 := hid hs1
  clear hx1 hs1
  go_wp2_with fail
  refine (ffind2_any w1 (HT.out.ext HX1.out) A1 E Y n c1 ne ce ny cy b es l HS1.out (HE.out.ext HX1.out) (HY.out.ext HX1.out) (by omega) (by omega) (okB_sizes HOK.out) HOS.out).mono ?_
  rintro e w2 ⟨hx2, A2, c2, fs, rfl, hs2, h0, h1, -⟩
  have HX2 := hid (HX1.out.trans hx2)
  have HS2 := hid hs2
  obtain ⟨er, her⟩ : ∃ er, findErr (checkBs b) b (asc es) = er := ⟨_, rfl⟩
  rw [her] at h0 h1 ⊢
  have HER := hid her
  have HF0 := hid h0
  have HF1 := hid h1
  clear hx2 hs2 her h0 h1
  go_wp2_with fail
  refine (rfind18_any w2 A E Y n c ne ce ny cy b es l (HB.out.ext HX2.out) (HE.out.ext HX2.out) (HY.out.ext HX2.out) hn20 (by omega) HOK.out HOS.out).mono ?_
  rintro e w3 ⟨hx3, A3, c3, gs, rfl, hs3, h0, h1⟩
  rw [HER.out] at h0 h1 ⊢
  have hsame : gs = fs := by
    by_cases hz : er = 0
    · exact (h1 hz).one (HF1.out hz)
    · rw [h0 hz, HF0.out hz]
  subst hsame
  have HX3 := hid (HX2.out.trans hx3)
  have HS3 := hid hs3
  have HS2' := hid (HS2.out.ext hx3)
  obtain ⟨N, hN⟩ : ∃ N, gs.length = N := ⟨_, rfl⟩
  have HN := hid hN
  rw [hN] at HS3 HS2' ⊢
  have hcn := HS3.out.cap
  have n1 : ((er : Int) != (er : Int)) = false := by simp
  have n2 : ((N : Int) != (N : Int)) = false := by simp
  clear hx3 hs3 h0 h1 hN HF0 HF1 HS2
  have hV : ∃ V, V = w3 := ⟨_, rfl⟩
  obtain ⟨V, rfl⟩ := hV
  go_wp2
  go_loopw [11] (fun i wr => ∃ k, k ≤ N ∧ i = .int .i64 k ∧ Hid (Ext V wr)) (fun i _ => N - (intOf i).toNat)
  case atStart => exact ⟨0, by omega, rfl, hid (Ext.refl _)⟩
  case round =>
    obtain ⟨k, hk, rfl, HX⟩ := hrel
    by_cases h1 : k < N
    · obtain ⟨f, hf⟩ : ∃ f, gs[k]? = some f := ⟨_, List.getElem?_eq_getElem (by have := HN.out; omega)⟩
      obtain ⟨b1, o1, bA, bc, cA, cc, rfl, u1, u2, -, -, x0, x1, x2, x3, x4⟩ := Sl_fn_at (HS2'.out.ext HX.out) hf
      obtain ⟨b2, o2, dA, dc, eA, ec, rfl, v1, v2, -, -, y0, y1, y2, y3, y4⟩ := Sl_fn_at (HS3.out.ext HX.out) hf
      have HSM := hid (same18_any wr.drew f bA cA dA eA bc cc dc ec (u1.ext (Ext.refl _).drew) (u2.ext (Ext.refl _).drew) (v1.ext (Ext.refl _).drew) (v2.ext (Ext.refl _).drew))
      obtain ⟨fe, fn, fb, fc, fl⟩ := f
      simp only [] at HSM x0 x1 x2 x3 x4 y0 y1 y2 y3 y4
      clear hf u1 u2 v1 v2
      obtain ⟨nb, hnb⟩ : ∃ nb, fb.length = nb := ⟨_, rfl⟩
      obtain ⟨nc, hnc⟩ : ∃ nc, fc.length = nc := ⟨_, rfl⟩
      rw [hnb] at HSM x2 y2
      rw [hnc] at HSM x3 y3
      clear hnb hnc
      go_upto_region 10 with fail
      refine wp_region_held_drew (S := (fun w' => w'.cell? ⟨b1, o1 + k * 5, none⟩ = some (.int .u32 fe) ∧ w'.cell? ⟨b1, o1 + k * 5 + 1, none⟩ = some (.string fn) ∧ w'.cell? ⟨b1, o1 + k * 5 + 2, none⟩ = some (.slice bA nb bc) ∧ w'.cell? ⟨b1, o1 + k * 5 + 3, none⟩ = some (.slice cA nc cc) ∧ w'.cell? ⟨b1, o1 + k * 5 + 4, none⟩ = some (.bool fl) ∧ w'.cell? ⟨b2, o2 + k * 5, none⟩ = some (.int .u32 fe) ∧ w'.cell? ⟨b2, o2 + k * 5 + 1, none⟩ = some (.string fn) ∧ w'.cell? ⟨b2, o2 + k * 5 + 2, none⟩ = some (.slice dA nb dc) ∧ w'.cell? ⟨b2, o2 + k * 5 + 3, none⟩ = some (.slice eA nc ec) ∧ w'.cell? ⟨b2, o2 + k * 5 + 4, none⟩ = some (.bool fl))) (by kernel_rfl) ⟨x0, x1, x2, x3, x4, y0, y1, y2, y3, y4⟩ (fun hSR0 => ?_)
      refine wpAnyH_takeL (i := 0) (v := ?Rv0) rfl (by kernel_rfl) (by kernel_rfl) (by kernel_rfl) (fun _ _ _ h => h) (Or.inl ⟨by rfl, ?Ry0⟩) (by assumption) ?Rr0
      case Ry0 => first | (intro w hSw; (try dsimp only at hSw); go_simp; done) | (intro w hSw; (try dsimp only at hSw); go_simp; with_reducible rfl)
      case' Rr0 => try simp only [Act.put, List.setIfInBounds_toArray, List.set_cons_zero, List.set_cons_succ]
      refine wpAnyH_takeL (i := 1) (v := ?Rv1) rfl (by kernel_rfl) (by kernel_rfl) (by kernel_rfl) (fun _ _ _ h => h) (Or.inl ⟨by rfl, ?Ry1⟩) (by assumption) ?Rr1
      case Ry1 => first | (intro w hSw; (try dsimp only at hSw); go_simp; done) | (intro w hSw; (try dsimp only at hSw); go_simp; with_reducible rfl)
      case' Rr1 => try simp only [Act.put, List.setIfInBounds_toArray, List.set_cons_zero, List.set_cons_succ]
      refine wpAnyH_takeL (i := 2) (v := ?Rv2) rfl (by kernel_rfl) (by kernel_rfl) (by kernel_rfl) (fun _ _ _ h => h) (Or.inl ⟨by rfl, ?Ry2⟩) (by assumption) ?Rr2
      case Ry2 => first | (intro w hSw; (try dsimp only at hSw); go_simp; done) | (intro w hSw; (try dsimp only at hSw); go_simp; with_reducible rfl)
      case' Rr2 => try simp only [Act.put, List.setIfInBounds_toArray, List.set_cons_zero, List.set_cons_succ]
      refine wpAnyH_takeL (i := 3) (v := ?Rv3) rfl (by kernel_rfl) (by kernel_rfl) (by kernel_rfl) (fun _ _ _ h => h) (Or.inl ⟨by rfl, ?Ry3⟩) (by assumption) ?Rr3
      case Ry3 => first | (intro w hSw; (try dsimp only at hSw); go_simp; done) | (intro w hSw; (try dsimp only at hSw); go_simp; with_reducible rfl)
      case' Rr3 => try simp only [Act.put, List.setIfInBounds_toArray, List.set_cons_zero, List.set_cons_succ]
      refine wpAnyH_takeL (i := 4) (v := ?Rv4) rfl (by kernel_rfl) (by kernel_rfl) (by kernel_rfl) (fun _ _ _ h => h) (Or.inl ⟨by rfl, ?Ry4⟩) (by assumption) ?Rr4
      case Ry4 => first | (intro w hSw; (try dsimp only at hSw); go_simp; done) | (intro w hSw; (try dsimp only at hSw); go_simp; with_reducible rfl)
      case' Rr4 => try simp only [Act.put, List.setIfInBounds_toArray, List.set_cons_zero, List.set_cons_succ]
      refine wpAnyH_takeL (i := 5) (v := ?Rv5) rfl (by kernel_rfl) (by kernel_rfl) (by kernel_rfl) (fun _ _ _ h => h) (Or.inl ⟨by rfl, ?Ry5⟩) (by assumption) ?Rr5
      case Ry5 => first | (intro w hSw; (try dsimp only at hSw); go_simp; done) | (intro w hSw; (try dsimp only at hSw); go_simp; with_reducible rfl)
      case' Rr5 => try simp only [Act.put, List.setIfInBounds_toArray, List.set_cons_zero, List.set_cons_succ]
      refine wpAnyH_takeL (i := 6) (v := ?Rv6) rfl (by kernel_rfl) (by kernel_rfl) (by kernel_rfl) (fun _ _ _ h => h) (Or.inl ⟨by rfl, ?Ry6⟩) (by assumption) ?Rr6
      case Ry6 => first | (intro w hSw; (try dsimp only at hSw); go_simp; done) | (intro w hSw; (try dsimp only at hSw); go_simp; with_reducible rfl)
      case' Rr6 => try simp only [Act.put, List.setIfInBounds_toArray, List.set_cons_zero, List.set_cons_succ]
      refine wpAnyH_takeL (i := 7) (v := ?Rv7) rfl (by kernel_rfl) (by kernel_rfl) (by kernel_rfl) (fun _ _ _ h => h) (Or.inl ⟨by rfl, ?Ry7⟩) (by assumption) ?Rr7
      case Ry7 => first | (intro w hSw; (try dsimp only at hSw); go_simp; done) | (intro w hSw; (try dsimp only at hSw); go_simp; with_reducible rfl)
      case' Rr7 => try simp only [Act.put, List.setIfInBounds_toArray, List.set_cons_zero, List.set_cons_succ]
      refine wpAnyH_takeL (i := 8) (v := ?Rv8) rfl (by kernel_rfl) (by kernel_rfl) (by kernel_rfl) (fun _ _ _ h => h) (Or.inl ⟨by rfl, ?Ry8⟩) (by assumption) ?Rr8
      case Ry8 => first | (intro w hSw; (try dsimp only at hSw); go_simp; done) | (intro w hSw; (try dsimp only at hSw); go_simp; with_reducible rfl)
      case' Rr8 => try simp only [Act.put, List.setIfInBounds_toArray, List.set_cons_zero, List.set_cons_succ]
      refine wpAnyH_takeL (i := 9) (v := ?Rv9) rfl (by kernel_rfl) (by kernel_rfl) (by kernel_rfl) (fun _ _ _ h => h) (Or.inl ⟨by rfl, ?Ry9⟩) (by assumption) ?Rr9
      case Ry9 => first | (intro w hSw; (try dsimp only at hSw); go_simp; done) | (intro w hSw; (try dsimp only at hSw); go_simp; with_reducible rfl)
      case' Rr9 => try simp only [Act.put, List.setIfInBounds_toArray, List.set_cons_zero, List.set_cons_succ]
      refine wpAnyH_takeL (i := 10) (v := ?Rv10) rfl (by kernel_rfl) (by kernel_rfl) (by kernel_rfl) (fun _ _ _ h => h) (Or.inl ⟨by rfl, ?Ry10⟩) (by assumption) ?Rr10
      case Ry10 => first | (intro w hSw; (try dsimp only at hSw); go_simp; done) | (intro w hSw; (try dsimp only at hSw); go_simp; with_reducible rfl)
      case' Rr10 => try simp only [Act.put, List.setIfInBounds_toArray, List.set_cons_zero, List.set_cons_succ]
      refine wpAnyH_takeL (i := 11) (v := ?Rv11) rfl (by kernel_rfl) (by kernel_rfl) (by kernel_rfl) (fun _ _ _ h => h) (Or.inl ⟨by rfl, ?Ry11⟩) (by assumption) ?Rr11
      case Ry11 => first | (intro w hSw; (try dsimp only at hSw); go_simp; done) | (intro w hSw; (try dsimp only at hSw); go_simp; with_reducible rfl)
      case' Rr11 => try simp only [Act.put, List.setIfInBounds_toArray, List.set_cons_zero, List.set_cons_succ]
      refine wpAnyH_takeL (i := 12) (v := ?Rv12) rfl (by kernel_rfl) (by kernel_rfl) (by kernel_rfl) (fun _ _ _ h => h) (Or.inl ⟨by rfl, ?Ry12⟩) (by assumption) ?Rr12
      case Ry12 => first | (intro w hSw; (try dsimp only at hSw); go_simp; done) | (intro w hSw; (try dsimp only at hSw); go_simp; with_reducible rfl)
      case' Rr12 => try simp only [Act.put, List.setIfInBounds_toArray, List.set_cons_zero, List.set_cons_succ]
      refine wpAnyH_takeL (i := 13) (v := ?Rv13) rfl (by kernel_rfl) (by kernel_rfl) (by kernel_rfl) (fun _ _ _ h => h) (Or.inl ⟨by rfl, ?Ry13⟩) (by assumption) ?Rr13
      case Ry13 => first | (intro w hSw; (try dsimp only at hSw); go_simp; done) | (intro w hSw; (try dsimp only at hSw); go_simp; with_reducible rfl)
      case' Rr13 => try simp only [Act.put, List.setIfInBounds_toArray, List.set_cons_zero, List.set_cons_succ]
      refine wpAnyH_takeL (i := 14) (v := ?Rv14) rfl (by kernel_rfl) (by kernel_rfl) (by kernel_rfl) (fun _ _ _ h => h) (Or.inl ⟨by rfl, ?Ry14⟩) (by assumption) ?Rr14
      case Ry14 => first | (intro w hSw; (try dsimp only at hSw); go_simp; done) | (intro w hSw; (try dsimp only at hSw); go_simp; with_reducible rfl)
      case' Rr14 => try simp only [Act.put, List.setIfInBounds_toArray, List.set_cons_zero, List.set_cons_succ]
      refine wpAnyH_takeL (i := 15) (v := ?Rv15) rfl (by kernel_rfl) (by kernel_rfl) (by kernel_rfl) (fun _ _ _ h => h) (Or.inl ⟨by rfl, ?Ry15⟩) (by assumption) ?Rr15
      case Ry15 => first | (intro w hSw; (try dsimp only at hSw); go_simp; done) | (intro w hSw; (try dsimp only at hSw); go_simp; with_reducible rfl)
      case' Rr15 => try simp only [Act.put, List.setIfInBounds_toArray, List.set_cons_zero, List.set_cons_succ]
      refine wpAnyH_takeL (i := 16) (v := ?Rv16) rfl (by kernel_rfl) (by kernel_rfl) (by kernel_rfl) (fun _ _ _ h => h) (Or.inl ⟨by rfl, ?Ry16⟩) (by assumption) ?Rr16
      case Ry16 => first | (intro w hSw; (try dsimp only at hSw); go_simp; done) | (intro w hSw; (try dsimp only at hSw); go_simp; with_reducible rfl)
      case' Rr16 => try simp only [Act.put, List.setIfInBounds_toArray, List.set_cons_zero, List.set_cons_succ]
      refine wpAnyH_takeL (i := 17) (v := ?Rv17) rfl (by kernel_rfl) (by kernel_rfl) (by kernel_rfl) (fun _ _ _ h => h) (Or.inl ⟨by rfl, ?Ry17⟩) (by assumption) ?Rr17
      case Ry17 => first | (intro w hSw; (try dsimp only at hSw); go_simp; done) | (intro w hSw; (try dsimp only at hSw); go_simp; with_reducible rfl)
      case' Rr17 => try simp only [Act.put, List.setIfInBounds_toArray, List.set_cons_zero, List.set_cons_succ]
      refine wpAnyH_takeL (i := 18) (v := ?Rv18) rfl (by kernel_rfl) (by kernel_rfl) (by kernel_rfl) (fun _ _ _ h => h) (Or.inl ⟨by rfl, ?Ry18⟩) (by assumption) ?Rr18
      case Ry18 => first | (intro w hSw; (try dsimp only at hSw); go_simp; done) | (intro w hSw; (try dsimp only at hSw); go_simp; with_reducible rfl)
      case' Rr18 => try simp only [Act.put, List.setIfInBounds_toArray, List.set_cons_zero, List.set_cons_succ]
      refine wpAnyH_takeL (i := 19) (v := ?Rv19) rfl (by kernel_rfl) (by kernel_rfl) (by kernel_rfl) (fun _ _ _ h => h) (Or.inl ⟨by rfl, ?Ry19⟩) (by assumption) ?Rr19
      case Ry19 => first | (intro w hSw; (try dsimp only at hSw); go_simp; done) | (intro w hSw; (try dsimp only at hSw); go_simp; with_reducible rfl)
      case' Rr19 => try simp only [Act.put, List.setIfInBounds_toArray, List.set_cons_zero, List.set_cons_succ]
      refine wpAnyH_takeL (i := 20) (v := ?Rv20) rfl (by kernel_rfl) (by kernel_rfl) (by kernel_rfl) (fun _ _ _ h => h) (Or.inl ⟨by rfl, ?Ry20⟩) (by assumption) ?Rr20
      case Ry20 => first | (intro w hSw; (try dsimp only at hSw); go_simp; done) | (intro w hSw; (try dsimp only at hSw); go_simp; with_reducible rfl)
      case' Rr20 => try simp only [Act.put, List.setIfInBounds_toArray, List.set_cons_zero, List.set_cons_succ]
      refine wpAnyH_takeL (i := 21) (v := ?Rv21) rfl (by kernel_rfl) (by kernel_rfl) (by kernel_rfl) (fun _ _ _ h => h) (Or.inl ⟨by rfl, ?Ry21⟩) (by assumption) ?Rr21
      case Ry21 => first | (intro w hSw; (try dsimp only at hSw); go_simp; done) | (intro w hSw; (try dsimp only at hSw); go_simp; with_reducible rfl)
      case' Rr21 => try simp only [Act.put, List.setIfInBounds_toArray, List.set_cons_zero, List.set_cons_succ]
      refine wpAnyH_takeL (i := 22) (v := ?Rv22) rfl (by kernel_rfl) (by kernel_rfl) (by kernel_rfl) (fun _ _ _ h => h) (Or.inl ⟨by rfl, ?Ry22⟩) (by assumption) ?Rr22
      case Ry22 => first | (intro w hSw; (try dsimp only at hSw); go_simp; done) | (intro w hSw; (try dsimp only at hSw); go_simp; with_reducible rfl)
      case' Rr22 => try simp only [Act.put, List.setIfInBounds_toArray, List.set_cons_zero, List.set_cons_succ]
      refine wpAnyH_takeL (i := 23) (v := ?Rv23) rfl (by kernel_rfl) (by kernel_rfl) (by kernel_rfl) (fun _ _ _ h => h) (Or.inl ⟨by rfl, ?Ry23⟩) (by assumption) ?Rr23
      case Ry23 => first | (intro w hSw; (try dsimp only at hSw); go_simp; done) | (intro w hSw; (try dsimp only at hSw); go_simp; with_reducible rfl)
      case' Rr23 => try simp only [Act.put, List.setIfInBounds_toArray, List.set_cons_zero, List.set_cons_succ]
      refine wpAnyH_takeL (i := 24) (v := ?Rv24) rfl (by kernel_rfl) (by kernel_rfl) (by kernel_rfl) (fun _ _ _ h => h) (Or.inl ⟨by rfl, ?Ry24⟩) (by assumption) ?Rr24
      case Ry24 => first | (intro w hSw; (try dsimp only at hSw); go_simp; done) | (intro w hSw; (try dsimp only at hSw); go_simp; with_reducible rfl)
      case' Rr24 => try simp only [Act.put, List.setIfInBounds_toArray, List.set_cons_zero, List.set_cons_succ]
      refine wpAnyH_takeL (i := 25) (v := ?Rv25) rfl (by kernel_rfl) (by kernel_rfl) (by kernel_rfl) (fun _ _ _ h => h) (Or.inl ⟨by rfl, ?Ry25⟩) (by assumption) ?Rr25
      case Ry25 => first | (intro w hSw; (try dsimp only at hSw); go_simp; done) | (intro w hSw; (try dsimp only at hSw); go_simp; with_reducible rfl)
      case' Rr25 => try simp only [Act.put, List.setIfInBounds_toArray, List.set_cons_zero, List.set_cons_succ]
      refine wpAnyH_takeL (i := 26) (v := ?Rv26) rfl (by kernel_rfl) (by kernel_rfl) (by kernel_rfl) (fun _ _ _ h => h) (Or.inl ⟨by rfl, ?Ry26⟩) (by assumption) ?Rr26
      case Ry26 => first | (intro w hSw; (try dsimp only at hSw); go_simp; done) | (intro w hSw; (try dsimp only at hSw); go_simp; with_reducible rfl)
      case' Rr26 => try simp only [Act.put, List.setIfInBounds_toArray, List.set_cons_zero, List.set_cons_succ]
      refine wpAnyH_takeL (i := 27) (v := ?Rv27) rfl (by kernel_rfl) (by kernel_rfl) (by kernel_rfl) (fun _ _ _ h => h) (Or.inl ⟨by rfl, ?Ry27⟩) (by assumption) ?Rr27
      case Ry27 => first | (intro w hSw; (try dsimp only at hSw); go_simp; done) | (intro w hSw; (try dsimp only at hSw); go_simp; with_reducible rfl)
      case' Rr27 => try simp only [Act.put, List.setIfInBounds_toArray, List.set_cons_zero, List.set_cons_succ]
      refine wpAnyH_takeL (i := 28) (v := ?Rv28) rfl (by kernel_rfl) (by kernel_rfl) (by kernel_rfl) (fun _ _ _ h => h) (Or.inl ⟨by rfl, ?Ry28⟩) (by assumption) ?Rr28
      case Ry28 => first | (intro w hSw; (try dsimp only at hSw); go_simp; done) | (intro w hSw; (try dsimp only at hSw); go_simp; with_reducible rfl)
      case' Rr28 => try simp only [Act.put, List.setIfInBounds_toArray, List.set_cons_zero, List.set_cons_succ]
      refine wpAnyH_takeL (i := 29) (v := ?Rv29) rfl (by kernel_rfl) (by kernel_rfl) (by kernel_rfl) (fun _ _ _ h => h) (Or.inl ⟨by rfl, ?Ry29⟩) (by assumption) ?Rr29
      case Ry29 => first | (intro w hSw; (try dsimp only at hSw); go_simp; done) | (intro w hSw; (try dsimp only at hSw); go_simp; with_reducible rfl)
      case' Rr29 => try simp only [Act.put, List.setIfInBounds_toArray, List.set_cons_zero, List.set_cons_succ]
      refine wpAnyH_ready (rs := [30]) (by kernel_rfl) (by simp) ?_
      refine AllReadyH.consL rfl (fun K hK => ?_) AllReadyH.nil
      go_simp
      go_at_call 10
      refine (HSM.out).mono ?_
      rintro e w6 ⟨rfl, hx6⟩
      have HX6 := hid hx6.drew_left
      clear hx6
      refine hK.out _ _ ⟨HX6.out.cell x0, HX6.out.cell x1, HX6.out.cell x2, HX6.out.cell x3, HX6.out.cell x4, HX6.out.cell y0, HX6.out.cell y1, HX6.out.cell y2, HX6.out.cell y3, HX6.out.cell y4⟩ (fun hSR1 => ?_)
      clear hK K
      try simp only [Act.put, List.setIfInBounds_toArray, List.set_cons_zero, List.set_cons_succ]
      refine wpAnyH_takeL (i := 31) (v := ?Rv31) rfl (by kernel_rfl) (by kernel_rfl) (by kernel_rfl) (fun _ _ _ h => h) (Or.inl ⟨by rfl, ?Ry31⟩) (by assumption) ?Rr31
      case Ry31 => first | (intro w hSw; (try dsimp only at hSw); go_simp; done) | (intro w hSw; (try dsimp only at hSw); go_simp; with_reducible rfl)
      case' Rr31 => try simp only [Act.put, List.setIfInBounds_toArray, List.set_cons_zero, List.set_cons_succ]
      refine wpAnyH_done (by kernel_rfl) ?_ _
      go_wp2
      first
        | go_roundw
        | refine ⟨?rel, ?measure⟩
      case rel => exact ⟨k + 1, by omega, by go_num, hid (HX.out.trans HX6.out)⟩
      case measure => simp [intOf]; omega
    · obtain rfl : k = N := by omega
      go_wp2_with fail
      refine (example_any _).mono ?_
      rintro e wz ⟨rfl, hxz⟩
      have HXZ := hid ((HX3.out.trans HX.out).trans hxz)
      clear hxz
      go_wp2
      go_ret
      exact ⟨rfl, HXZ.out⟩
end Go.Proofs.YtnlmhnbogleijaaGreatDoor
