/- Functions as plain data; the walks of find, first. -/
import Derived.Test.YtnlmhnbogleijaaGreatDoorRows
import Derived.Test.YtnlmhnbogleijaaGreatDoorInsm
import Derived.Test.YtnlmhnbogleijaaGreatDoorLasm
import Derived.Deep.QuietTactic
namespace Go.Proofs.YtnlmhnbogleijaaGreatDoor
open Go.RowKit Go.Deco
set_option linter.unusedSimpArgs false
set_option linter.unusedVariables false

def fnR : Rep Fn18 where
  size := 5
  pos := by omega
  rel w S cs f := ∃ vb vc, cs = [.int .u32 f.entry, .string f.name, vb, vc, .bool f.leaf] ∧ Sl u32R w S vb f.blocks ∧ Sl u32R w S vc f.calls ∧ f.entry < 4294967296 ∧ f.name.size ≤ maxLen
  keep hk := fun ⟨vb, vc, h1, h2, h3, h4⟩ => ⟨vb, vc, h1, h2.keep hk, h3.keep hk, h4⟩
  mono hk := fun ⟨vb, vc, h1, h2, h3, h4⟩ => ⟨vb, vc, h1, h2.mono hk, h3.mono hk, h4⟩
  len := fun ⟨vb, vc, h1, _⟩ => by rw [h1]; rfl
  one := fun ⟨vb, vc, h1, h2, h3, _⟩ u hu => by
    obtain ⟨A, c, rfl, _⟩ := h2.form
    obtain ⟨A', c', rfl, _⟩ := h3.form
    rw [h1] at hu
    simp at hu
    rcases hu with rfl | rfl | rfl | rfl | rfl <;> rfl

theorem Sl_fn_at {w : World} {S : Nat → Prop} {A : Option Addr} {n c k : Nat} {l : List Fn18} {f : Fn18} (h : Sl fnR w S (.slice A n c) l) (hk : l[k]? = some f) :
    ∃ b off bA bc cA cc, A = some ⟨b, off, none⟩ ∧ Sl u32R w S (.slice bA f.blocks.length bc) f.blocks ∧ Sl u32R w S (.slice cA f.calls.length cc) f.calls ∧ f.entry < 4294967296 ∧ f.name.size ≤ maxLen ∧
      w.cell? ⟨b, off + k * 5, none⟩ = some (.int .u32 f.entry) ∧ w.cell? ⟨b, off + k * 5 + 1, none⟩ = some (.string f.name) ∧ w.cell? ⟨b, off + k * 5 + 2, none⟩ = some (.slice bA f.blocks.length bc) ∧
      w.cell? ⟨b, off + k * 5 + 3, none⟩ = some (.slice cA f.calls.length cc) ∧ w.cell? ⟨b, off + k * 5 + 4, none⟩ = some (.bool f.leaf) := by
  obtain ⟨b, off, cs, hA, ⟨vb, vc, hcs, hb, hcl, h1, h2⟩, hc⟩ := h.get hk
  obtain ⟨bA, bc, rfl, _, _⟩ := hb.form
  obtain ⟨cA, cc, rfl, _, _⟩ := hcl.form
  subst hcs
  exact ⟨b, off, bA, bc, cA, cc, hA, hb, hcl, h1, h2, by simpa [fnR] using hc 0 _ rfl, by simpa [fnR, Nat.add_assoc] using hc 1 _ rfl, by simpa [fnR, Nat.add_assoc] using hc 2 _ rfl, by simpa [fnR, Nat.add_assoc] using hc 3 _ rfl, by simpa [fnR, Nat.add_assoc] using hc 4 _ rfl⟩

/-- The value of a function as an aggregate. -/
def fnV (f : Fn18) (bA : Option Addr) (bc : Nat) (cA : Option Addr) (cc : Nat) : Value := .agg #[.int .u32 f.entry, .string f.name, .slice bA f.blocks.length bc, .slice cA f.calls.length cc, .bool f.leaf]

theorem call_ff1 : ∀ args w, (callFunc 49 args).run Tryz.prog w = .ok (.enter 49 args) w := fun args w => callFunc_enter Tryz.func49 (by kernel_rfl) rfl args w

set_option maxRecDepth 100000 in
set_option maxHeartbeats 400000 in
theorem find1_any (w : World) (f : Fn18) (bA cA : Option Addr) (bc cc a b : Nat) (hb : w.cell? ⟨b, 0, none⟩ = some (.int .u32 a)) :
    Calls Tryz.prog 49 #[.agg #[.int .u32 f.entry, .string f.name, .slice bA f.blocks.length bc, .slice cA f.calls.length cc, .bool f.leaf], .pointer (some ⟨b, 0, none⟩)] w fun e w' => e = .returned (.bool (f.entry == a)) ∧ Ext w w' := by
  have hlt := World.block_lt_of_cell? _ _ hb
  go_enter Tryz.func49, Tryz.ntmps49
  go_wp2
  go_ret
  refine ⟨ret_bool ?_, (Ext.refl w).alloc _⟩
  rw [Bool.eq_iff_iff]
  simp
  omega

def ixFn (l : List Fn18) (a : Nat) : Int := match l.findIdx? (fun f => f.entry == a) with | some k => k | none => -1
theorem ixFn_hit {l : List Fn18} {a k : Nat} {f : Fn18} (h : ∀ j, j < k → ∀ y, l[j]? = some y → (y.entry == a) = false) (hk : l[k]? = some f) (hp : (f.entry == a) = true) : ixFn l a = k := by
  have : l.findIdx? (fun f => f.entry == a) = some k := by
    rw [List.findIdx?_eq_some_iff_getElem]
    obtain ⟨hlt, rfl⟩ := List.getElem?_eq_some_iff.1 hk
    exact ⟨hlt, hp, fun j hj => by have := h j hj _ (List.getElem?_eq_getElem (by omega)); simp [this]⟩
  rw [ixFn, this]
theorem ixFn_miss {l : List Fn18} {a : Nat} (h : ∀ j, j < l.length → ∀ y, l[j]? = some y → (y.entry == a) = false) : ixFn l a = -1 := by
  have : l.findIdx? (fun f => f.entry == a) = none := by
    rw [List.findIdx?_eq_none_iff]
    intro x hx
    obtain ⟨k, hk, rfl⟩ := List.getElem_of_mem hx
    exact h k hk _ (List.getElem?_eq_getElem hk)
  rw [ixFn, this]
theorem ixFn_cases (l : List Fn18) (a : Nat) : (ixFn l a = -1 ∧ fnd l a = none) ∨ ∃ (k : Nat) (f : Fn18), ixFn l a = k ∧ l[k]? = some f ∧ fnd l a = some f := by
  unfold ixFn
  cases h : l.findIdx? (fun f => f.entry == a) with
  | none =>
    refine .inl ⟨rfl, ?_⟩
    rw [List.findIdx?_eq_none_iff] at h
    rw [fnd, List.find?_eq_none]
    intro x hx
    simp [h x hx]
  | some k =>
    rw [List.findIdx?_eq_some_iff_getElem] at h
    obtain ⟨hlt, hp, hj⟩ := h
    refine .inr ⟨k, l[k], rfl, List.getElem?_eq_getElem hlt, ?_⟩
    rw [fnd, List.find?_eq_some_iff_getElem]
    exact ⟨hp, k, hlt, rfl, fun j hj' => by have := hj j hj'; simpa using this⟩

set_option maxRecDepth 100000 in
set_option maxHeartbeats 400000 in
theorem indexFn_any (w : World) (a b : Nat) (hb : w.cell? ⟨b, 0, none⟩ = some (.int .u32 a)) (S : Nat → Prop) (A : Option Addr) (n c : Nat) (l : List Fn18) (hl : Sl fnR w S (.slice A n c) l) (hn : n ≤ 1000000) :
    Calls Tryz.prog 48 #[.slice A n c, .func (.func 49) #[] #[.pointer (some ⟨b, 0, none⟩)]] w fun e w' => e = .returned (.int .i64 (ixFn l a)) ∧ Ext w w' := by
  have hg := call_ff1
  have hln := hl.len
  have HS := hid hl; clear hl
  have HL := hid hln; clear hln
  have HB := hid hb; clear hb
  go_enter Tryz.func48, Tryz.ntmps48
  go_wp2
  go_loopw [8] (fun i wr => ∃ k : Nat, k ≤ n ∧ i = .int .i64 k ∧ Hid (Ext w wr) ∧ Hid (∀ j, j < k → ∀ y, l[j]? = some y → (y.entry == a) = false)) (fun i _ => n - (intOf i).toNat)
  case atStart => exact ⟨0, by omega, rfl, hid (Ext.refl w), hid (by omega)⟩
  case round =>
    obtain ⟨k, hk, rfl, he, ha⟩ := hrel
    by_cases h1 : k < n
    · obtain ⟨f, hf⟩ : ∃ f, l[k]? = some f := ⟨_, List.getElem?_eq_getElem (by have := HL.out; omega)⟩
      obtain ⟨b', off, bA, bc, cA, cc, rfl, -, -, hel, -, c0, c1, c2, c3, c4⟩ := Sl_fn_at (HS.out.ext he.out) hf
      have HK := hid hf; clear hf
      go_wp2_with fail
      refine (find1_any _ f bA cA bc cc a b (he.out.cell HB.out)).mono ?_
      rintro e w1 ⟨rfl, hx⟩
      have hx := hid hx
      obtain ⟨r, hr⟩ : ∃ r, (f.entry == a) = r := ⟨_, rfl⟩
      rw [hr]
      cases r with
      | true =>
        have HR := hid hr; clear hr
        go_wp2
        go_ret
        exact ⟨ret_int (ixFn_hit ha.out HK.out HR.out).symm, he.out.trans hx.out⟩
      | false =>
        have HR := hid hr; clear hr
        go_wp2
        go_roundw
        case rel =>
          refine ⟨k + 1, by omega, by go_num, hid (he.out.trans hx.out), hid fun j hj y hy => ?_⟩
          rcases Nat.lt_or_ge j k with h | h
          · exact ha.out j h y hy
          · obtain rfl : j = k := by omega
            have := HK.out.symm.trans hy
            injection this with this
            rw [← this]; exact HR.out
        case measure => simp [intOf]; omega
    · go_wp2
      go_ret
      exact ⟨ret_int (ixFn_miss (fun j hj => ha.out j (by have := HL.out; omega))).symm, he.out⟩

/-- What find hands back. -/
def FindPost (w : World) (S : Nat → Prop) (o : Option Fn18) (e : Ending) (w' : World) : Prop :=
  Ext w w' ∧ match o with
  | none => e = .returned (.tuple #[.agg #[.int .u32 0, .string ⟨#[]⟩, .slice none 0 0, .slice none 0 0, .bool false], .bool false])
  | some f => ∃ bA bc cA cc, e = .returned (.tuple #[.agg #[.int .u32 f.entry, .string f.name, .slice bA f.blocks.length bc, .slice cA f.calls.length cc, .bool f.leaf], .bool true]) ∧
      Sl u32R w S (.slice bA f.blocks.length bc) f.blocks ∧ Sl u32R w S (.slice cA f.calls.length cc) f.calls ∧ f.entry < 4294967296

set_option maxRecDepth 100000 in
set_option maxHeartbeats 400000 in
theorem ffind_any (w : World) (S : Nat → Prop) (A : Option Addr) (n c : Nat) (l : List Fn18) (hl : Sl fnR w S (.slice A n c) l) (hn : n ≤ 1000000) (a : Nat) :
    Calls Tryz.prog 26 #[.slice A n c, .int .u32 a] w (FindPost w S (fnd l a)) := by
  have hln := hl.len
  have HS := hid hl; clear hl
  have HL := hid hln; clear hln
  have hc := ixFn_cases l a
  obtain ⟨o, ho⟩ : ∃ o, fnd l a = o := ⟨_, rfl⟩
  rw [ho] at hc ⊢
  clear ho
  obtain ⟨i, hi⟩ : ∃ i, ixFn l a = i := ⟨_, rfl⟩
  rw [hi] at hc
  have HI := hid hi; clear hi
  have HC := hid hc; clear hc
  obtain ⟨W0, hW0⟩ : ∃ W0, ((w.alloc (Obj.cells #[Value.int IntKind.u32 a] 38)).alloc (Obj.cells #[Value.int IntKind.u32 0, Value.string ⟨#[]⟩, Value.slice none 0 0, Value.slice none 0 0, Value.bool false] 40)) = W0 := ⟨_, rfl⟩
  have hE : Ext w W0 := by rw [← hW0]; exact ((Ext.refl w).alloc _).alloc _
  have hsz : W0.heap.size = w.heap.size + 2 := by rw [← hW0]; simp
  have q0 : W0.cell? ⟨w.heap.size, 0, none⟩ = some (.int .u32 a) := by rw [← hW0]; simp
  have r0 : W0.cell? ⟨w.heap.size + 1, 0, none⟩ = some (.int .u32 0) := by rw [← hW0]; simp
  have r1 : W0.cell? ⟨w.heap.size + 1, 1, none⟩ = some (.string ⟨#[]⟩) := by rw [← hW0]; simp
  have r2 : W0.cell? ⟨w.heap.size + 1, 2, none⟩ = some (.slice none 0 0) := by rw [← hW0]; simp
  have r3 : W0.cell? ⟨w.heap.size + 1, 3, none⟩ = some (.slice none 0 0) := by rw [← hW0]; simp
  have r4 : W0.cell? ⟨w.heap.size + 1, 4, none⟩ = some (.bool false) := by rw [← hW0]; simp
  have fr : ∀ j, W0.frozen? ⟨w.heap.size + 1, j, none⟩ = false := by intro j; rw [← hW0]; simp
  have HE := hid hE
  have HSZ := hid hsz
  have HR := hid (And.intro r0 (And.intro r1 (And.intro r2 (And.intro r3 (And.intro r4 fr)))))
  have Q0 := hid q0
  clear hE hsz r0 r1 r2 r3 r4 fr q0
  go_enter Tryz.func26, Tryz.ntmps26
  go_wp2_with fail
  refine (indexFn_any _ a w.heap.size Q0.out S A n c l (HS.out.ext HE.out) hn).mono ?_
  rintro e w1 ⟨rfl, hx⟩
  clear hW0
  rw [HI.out]
  obtain ⟨r0, r1, r2, r3, r4, fr⟩ := HR.out
  have r0 := hx.cell r0
  have r1 := hx.cell r1
  have r2 := hx.cell r2
  have r3 := hx.cell r3
  have r4 := hx.cell r4
  have f0 := (hx.frozen (p := ⟨w.heap.size + 1, 0, none⟩) (by have := HSZ.out; simp; omega)).trans (fr 0)
  have f1 := (hx.frozen (p := ⟨w.heap.size + 1, 1, none⟩) (by have := HSZ.out; simp; omega)).trans (fr 1)
  have f2 := (hx.frozen (p := ⟨w.heap.size + 1, 2, none⟩) (by have := HSZ.out; simp; omega)).trans (fr 2)
  have f3 := (hx.frozen (p := ⟨w.heap.size + 1, 3, none⟩) (by have := HSZ.out; simp; omega)).trans (fr 3)
  have f4 := (hx.frozen (p := ⟨w.heap.size + 1, 4, none⟩) (by have := HSZ.out; simp; omega)).trans (fr 4)
  have hlt : w.heap.size + 1 < w1.heap.size := by have := hx.size; have := HSZ.out; omega
  have HX := hid (HE.out.trans hx)
  have HX1 := hid hx
  clear hx fr
  rcases HC.out with ⟨rfl, rfl⟩ | ⟨k, f, rfl, hk, rfl⟩
  · go_wp2
    refine bodyPost_ret (v := .tuple #[.agg #[.int .u32 0, .string ⟨#[]⟩, .slice none 0 0, .slice none 0 0, .bool false], .bool false]) (by simp [results, Tryz.results26, go_sem, World.cell?_setCell_same, World.cell?_setCell_other, r0, r1, r2, r3, r4]) rfl ?_
    exact ⟨((((HX.out.setCell (by simp) _).setCell (by simp) _).setCell (by simp) _).setCell (by simp) _).setCell (by simp) _, rfl⟩
  · obtain ⟨b', off, bA, bc, cA, cc, rfl, hb, hcl, hel, -, c0, c1, c2, c3, c4⟩ := Sl_fn_at HS.out hk
    have c0 := HX.out.cell c0
    have c1 := HX.out.cell c1
    have c2 := HX.out.cell c2
    have c3 := HX.out.cell c3
    have c4 := HX.out.cell c4
    have hkn : k < n := by have := HL.out; have := (List.getElem?_eq_some_iff.1 hk).1; omega
    have HB := hid hb
    have HCL := hid hcl
    clear hb hcl hk
    go_wp2
    refine bodyPost_ret (v := .tuple #[.agg #[.int .u32 f.entry, .string f.name, .slice bA f.blocks.length bc, .slice cA f.calls.length cc, .bool f.leaf], .bool true]) (by simp [results, Tryz.results26, go_sem, World.cell?_setCell_same, World.cell?_setCell_other, r0, r1, r2, r3, r4]) rfl ?_
    exact ⟨((((HX.out.setCell (by simp) _).setCell (by simp) _).setCell (by simp) _).setCell (by simp) _).setCell (by simp) _, bA, bc, cA, cc, rfl, HB.out, HCL.out, hel⟩

theorem info_fn : (Tryz.prog.info? 40).map (fun i => (i.zero, i.size, i.bytes)) = some (some (.agg #[.int .u32 0, .string ⟨#[]⟩, .slice none 0 0, .slice none 0 0, .bool false]), 5, 80) := by kernel_rfl

/-- A list of functions is handed back. -/
def FnsPost (w : World) (l : List Fn18) (e : Ending) (w' : World) : Prop := Ext w w' ∧ ∃ A c, e = .returned (.slice A l.length c) ∧ Sl fnR w' All (.slice A l.length c) l

theorem firsts_snoc {l : List Fn18} {k : Nat} {f : Fn18} (h : l[k]? = some f) : firsts (l.take (k + 1)) = first1 (firsts (l.take k)) f := by
  rw [take_snoc' h, firsts, List.foldl_append]
  rfl

set_option maxRecDepth 100000 in
set_option maxHeartbeats 1000000 in
theorem first_any (w : World) (A : Option Addr) (n c : Nat) (l : List Fn18) (hl : Sl fnR w All (.slice A n c) l) (hn : n ≤ 1000000) :
    Calls Tryz.prog 23 #[.slice A n c] w (FnsPost w (firsts l)) := by
  have hln := hl.len
  obtain ⟨hnc, hcm⟩ := hl.cap
  obtain ⟨i0, hi, hz0, hz1, hz2⟩ := info_parts info_fn
  have HS := hid hl; clear hl
  have HLN := hid hln; clear hln
  have HI := hid hi; clear hi
  have HZ0 := hid hz0; clear hz0
  have HZ1 := hid hz1; clear hz1
  have HZ2 := hid hz2; clear hz2
  go_enter Tryz.func23, Tryz.ntmps23
  go_wp2
  go_loopw [3, 10] (fun v i wr => ∃ (k : Nat) (A' : Option Addr) (c' : Nat) (L : List Fn18), k ≤ n ∧ i = .int .i64 k ∧ v = .slice A' L.length c' ∧ Hid (OwnS fnR wr w.heap.size 40 (fun b => b < w.heap.size) (.slice A' L.length c') L) ∧ Hid (Ext w wr) ∧ Hid (L = firsts (l.take k)) ∧ Hid (L.length ≤ k)) (fun _ i _ => n - (intOf i).toNat)
  case atStart => exact ⟨0, none, 0, [], by omega, rfl, rfl, hid OwnS.nil, hid (Ext.refl _), hid (by simp [firsts]), hid (by simp)⟩
  case round =>
    obtain ⟨k, A', c', L, hk, rfl, rfl, hown, hx, hL, hLk⟩ := hrel
    by_cases h1 : k < n
    · obtain ⟨f, hf⟩ : ∃ f, l[k]? = some f := ⟨_, List.getElem?_eq_getElem (by have := HLN.out; omega)⟩
      obtain ⟨b, off, bA, bc, cA, cc, rfl, hb, hcl, hel, hnm, c0, c1, c2, c3, c4⟩ := Sl_fn_at HS.out hf
      have c0 := hx.out.cell c0
      have c1 := hx.out.cell c1
      have c2 := hx.out.cell c2
      have c3 := hx.out.cell c3
      have c4 := hx.out.cell c4
      have HFK := hid hf; clear hf
      have HB := hid hb; clear hb
      have HCL := hid hcl; clear hcl
      have HNM := hid hnm; clear hnm
      have hfind := firsts_snoc HFK.out
      rw [← hL.out, first1] at hfind
      have HF := hid hfind; clear hfind
      obtain ⟨W0, hW0⟩ : ∃ W0, wr.alloc (Obj.cells #[Value.int IntKind.u32 f.entry, Value.string f.name, .slice bA f.blocks.length bc, .slice cA f.calls.length cc, Value.bool f.leaf] 40) = W0 := ⟨_, rfl⟩
      have hE : Ext wr W0 := by rw [← hW0]; exact (Ext.refl wr).alloc _
      have q0 : W0.cell? ⟨wr.heap.size, 0, none⟩ = some (.int .u32 f.entry) := by rw [← hW0]; simp
      have q1 : W0.cell? ⟨wr.heap.size, 1, none⟩ = some (.string f.name) := by rw [← hW0]; simp
      have q2 : W0.cell? ⟨wr.heap.size, 2, none⟩ = some (.slice bA f.blocks.length bc) := by rw [← hW0]; simp
      have q3 : W0.cell? ⟨wr.heap.size, 3, none⟩ = some (.slice cA f.calls.length cc) := by rw [← hW0]; simp
      have q4 : W0.cell? ⟨wr.heap.size, 4, none⟩ = some (.bool f.leaf) := by rw [← hW0]; simp
      have HE := hid hE
      have HQ := hid (And.intro q0 (And.intro q1 (And.intro q2 (And.intro q3 q4))))
      clear hE q1 q2 q3 q4
      have HO0 := hid (hown.out.ext HE.out)
      go_wp2_with fail
      refine (ffind_any W0 All A' L.length c' L HO0.out.sl (by have := hLk.out; omega) f.entry).mono ?_
      rintro e w1 ⟨hx1, hp⟩
      have HX1 := hid hx1
      clear hW0 q0
      obtain ⟨q0, q1, q2, q3, q4⟩ := HQ.out
      have q0 := hx1.cell q0
      have q1 := hx1.cell q1
      have q2 := hx1.cell q2
      have q3 := hx1.cell q3
      have q4 := hx1.cell q4
      have HO1 := hid (HO0.out.ext hx1)
      have HX := hid (hx.out.trans (HE.out.trans hx1))
      clear hx1
      obtain ⟨o, ho⟩ : ∃ o, fnd L f.entry = o := ⟨_, rfl⟩
      rw [ho] at hp
      have HOO := hid ho; clear ho
      cases o with
      | some f' =>
        obtain ⟨bA', bc', cA', cc', rfl, -, -, -⟩ := hp
        clear q1 q2 q3 q4 c0 c1 c2 c3 c4
        go_wp2
        refine ⟨?rel, ?measure⟩
        case rel =>
          refine ⟨k + 1, A', c', L, by omega, by go_num, rfl, hid (HO1.out.al _), hid (HX.out.alloc _), hid ?_, hid (by have := hLk.out; omega)⟩
          have := HF.out
          rw [HOO.out] at this
          simpa using this.symm
        case measure => simp [intOf]; omega
      | none =>
        have hp' := hp
        subst hp'
        clear hp c0 c1 c2 c3 c4
        have hx2 : Ext w1 (w1.alloc (Obj.cells #[Value.int IntKind.u32 0, Value.string ⟨#[]⟩, Value.slice none 0 0, Value.slice none 0 0, Value.bool false] 40)) := (Ext.refl w1).alloc _
        have q0 := hx2.cell q0
        have q1 := hx2.cell q1
        have q2 := hx2.cell q2
        have q3 := hx2.cell q3
        have q4 := hx2.cell q4
        have HO2 := hid (HO1.out.ext hx2)
        have HX2 := hid (HX.out.trans hx2)
        clear hx2
        go_wp2_with (first
          | (at_builtin; refine wpList_app1s rfl (.tmp 23) (.tmp 25) 28 rfl w.heap.size 40 i0 _ 5 80 Tryz.underlying28 HI.out HZ0.out HZ1.out HZ2.out rfl fnR rfl (.slice A' L.length c') L rfl HO2.out (w1.heap.size + 1) (by simp) f rfl ⟨_, _, rfl, ((HB.out.mono (S' := fun b => b < w.heap.size) (fun b' _ h' => h'.lt)).ext HX2.out).mono (fun b' hb' _ => ⟨hb', fun e => by have := HO2.out.block b' e.symm; omega⟩), ((HCL.out.mono (S' := fun b => b < w.heap.size) (fun b' _ h' => h'.lt)).ext HX2.out).mono (fun b' hb' _ => ⟨hb', fun e => by have := HO2.out.block b' e.symm; omega⟩), hel, HNM.out⟩ (by have := hLk.out; omega) (by have := hLk.out; omega) (by exact HX2.out.size) ?_; intro A2 c2 w3 hown3 hg3; have HO3 := hid hown3; have HX3 := hid ((HX2.out.alloc _).grown hg3 (fun k hk => (HO2.out.block _ hk).1)); clear hown3 hg3)
          | fail)
        go_roundw
        case rel =>
          refine ⟨k + 1, A2, c2, L ++ [f], by omega, by go_num, by simp, hid (by simpa using HO3.out), HX3, hid ?_, hid (by have := hLk.out; simp; omega)⟩
          have := HF.out
          rw [HOO.out] at this
          simpa using this.symm
        case measure => simp [intOf]; omega
    · obtain rfl : n = k := by omega
      go_wp2
      go_ret
      have e1 : l.take n = l := List.take_of_length_le (by have := HLN.out; omega)
      have hL' := hL.out
      rw [e1] at hL'
      subst hL'
      exact ⟨hx.out, A', c', rfl, hown.out.sl⟩
end Go.Proofs.YtnlmhnbogleijaaGreatDoor
