/- FuncsNames: the law walked. -/
import Derived.Test.YtnlmhnbogleijaaDoorFbGm
import Derived.Test.YtnlmhnbogleijaaDoorR6Bm
import Derived.Test.YtnlmhnbogleijaaDoorR6Cm
namespace Go.Proofs.YtnlmhnbogleijaaDoor
open Go.RowKit Go.Deco
set_option linter.unusedSimpArgs false
set_option linter.unusedVariables false

/-- The law's one block. -/
def nmIn (a : Nat) : In := ⟨a, 0, 1, 0, 0, 0, 0, 0, 1⟩
def nmBs (a : Nat) : Bs := ⟨a, (a + 1) % 4294967296, [nmIn a], [], []⟩
theorem nm_next (a : Nat) : nextI (nmIn a) = (a + 1) % 4294967296 := by
  have h : isaLen (nmIn a) = 1 := by
    unfold isaLen
    have : isaErr (nmIn a) = 0 := by
      simp [isaErr, nmIn, opShape, keptI, keptS, regB]
    rw [if_pos this]
    rfl
  unfold nextI
  rw [h]
  show w32d ((a : Int) + 1) = _
  unfold w32d
  omega
theorem nm_check (a : Nat) : checkBs [nmBs a] = 0 := by
  have hf : formedB (nmBs a) = true := by
    simp only [formedB, nmBs, chainB, nm_next]
    simp [nmIn]
  simp [checkBs, chkGo, errAt, hf]
theorem nm_asc (a : Nat) : asc [a, a] = [a] := by
  refine (asc_of (by simp) fun x => ?_).symm
  simp
theorem nm_blk (a : Nat) : blkA [nmBs a] a = some (nmBs a) := by simp [blkA, nmBs]
theorem nm_err (a : Nat) : findErr 0 [nmBs a] [a] = 0 := by
  simp [findErr, isB, nm_blk]
theorem nm_fn (a : Nat) (nm : ByteArray) : FnOf [nmBs a] nm a ⟨a, nm, [a], [], true⟩ := by
  have hr : ∀ x, ReachB [nmBs a] a x ↔ x = a := by
    intro x
    constructor
    · intro h
      cases h with
      | refl _ => rfl
      | step h1 h2 h3 h4 =>
        have := (blkA_mem h2).1
        rw [List.mem_singleton] at this
        rw [this] at h3
        cases h3
    · rintro rfl
      exact .refl (isB_some (nm_blk x))
  refine ⟨rfl, rfl, by simp, fun x => by rw [hr]; simp, List.Pairwise.nil, fun c => ?_, ?_⟩
  · constructor
    · intro h; cases h
    · rintro ⟨x, h1, s, h2, h3⟩
      have := (blkA_mem h2).1
      rw [List.mem_singleton] at this
      rw [this] at h3
      simp [ownCalls, nmBs, nmIn] at h3
  · refine ⟨fun _ x _ s h2 => ?_, fun _ => rfl⟩
    have := (blkA_mem h2).1
    rw [List.mem_singleton] at this
    rw [this]
    simp [ownLeaf, nmBs, nmIn]
theorem strOf_drop (l : List Nat) (k : Nat) : (Go.Deco.strOf l).extract k (Go.Deco.strOf l).size = Go.Deco.strOf (l.drop k) := by
  apply ByteArray.ext
  simp only [Go.Deco.strOf, ByteArray.size, ByteArray.data_extract, List.size_toArray, List.length_map, List.extract_toArray, List.extract_eq_take_drop, ← List.map_drop]
  rw [List.take_of_length_le (by simp)]

set_option maxRecDepth 100000 in
set_option maxHeartbeats 4000000 in
theorem names_any (w : World) (ht : TabAt w) (A : Option Addr) (n c : Nat) (l : List Sy) (hl : Sl symR w All (.slice A n c) l) (a : Nat) (ha : a < 4294967296) :
    Calls Tryd.prog 4 #[.int .u32 a, .slice A n c] w (OneBool w true) := by
  have hln := hl.len
  have hcb := hl.cap
  have HLN := hid hln
  have HL := hid hl
  have HT := hid ht
  obtain ⟨z, hz⟩ : ∃ z, (a + 1) % 4294967296 = z := ⟨_, rfl⟩
  have hzw : IntKind.u32.wrap ((a : Int) + 1) = (z : Int) := by
    rw [← hz]
    unfold IntKind.wrap
    simp [IntKind.bits, IntKind.signed]
  have HZ := hid hz
  clear hl ht hln hz
  go_enter Tryd.func4, Tryd.ntmps4
  go_wp2_with fail
  refine (fews_any w A n c l HL.out).mono ?_
  rintro e w' ⟨⟨r, rfl, hr⟩, rfl⟩
  cases r with
  | false =>
    go_wp2_with fail
    refine (example_any _).mono ?_
    rintro e wz ⟨rfl, hxz⟩
    have HXZ := hid ((Ext.refl w).trans hxz)
    clear hxz
    go_wp2
    go_ret
    exact ⟨rfl, HXZ.out⟩
  | true =>
  obtain ⟨hn20, hok⟩ := hr rfl
  have HOK := hid hok
  clear hr hok
  obtain ⟨W1, hW1⟩ : ∃ W1, w.alloc (.cells #[.int .u32 a, .int .u32 0, .int .i64 1, .int .i64 0, .int .i64 0, .int .i64 0, .int .i64 0, .int .i64 0, .int .i64 1] 45) = W1 := ⟨_, rfl⟩
  obtain ⟨W4, hW4⟩ : ∃ W4, ((W1.alloc (.cells #[.int .u32 a, .int .u32 0, .int .i64 1, .int .i64 0, .int .i64 0, .int .i64 0, .int .i64 0, .int .i64 0, .int .i64 1] 45)).alloc (.cells #[.int .u32 a, .int .u32 z, .slice (some ⟨W1.heap.size, 0, none⟩) 1 1, .slice none 0 0, .slice none 0 0] 46)).alloc (.cells #[.int .u32 a, .int .u32 a] 32) = W4 := ⟨_, rfl⟩
  have z1 : W1.heap.size = w.heap.size + 1 := by rw [← hW1]; simp
  have hE1 : Ext w W1 := by rw [← hW1]; exact (Ext.refl w).alloc _
  have hE4 : Ext w W4 := by rw [← hW4]; exact ((hE1.alloc _).alloc _).alloc _
  have HS4 : Hid (Sl bsR W4 All (.slice (some ⟨w.heap.size + 1 + 1, 0, none⟩) 1 1) [nmBs a]) := hid (by
    obtain ⟨W2, hW2⟩ : ∃ W2, W1.alloc (.cells #[.int .u32 a, .int .u32 0, .int .i64 1, .int .i64 0, .int .i64 0, .int .i64 0, .int .i64 0, .int .i64 0, .int .i64 1] 45) = W2 := ⟨_, rfl⟩
    have z2 : W2.heap.size = w.heap.size + 1 + 1 := by rw [← hW2]; simp [z1]
    rw [hW2] at hW4
    have hi : Sl insR W2 All (.slice (some ⟨W1.heap.size, 0, none⟩) 1 1) [nmIn a] := by
      rw [← hW2]
      refine sl_of_chunks (R := insR) (l := [nmIn a]) (c := 1) trivial (xs := inCells (nmIn a)) ⟨inCells (nmIn a), [], by simp, ⟨rfl, ?_⟩, rfl⟩ (fun j u hj => ?_) (by simp) (by decide)
      · simp [InOk, i64ok, nmIn]; exact ha
      · rw [Nat.zero_add, World.cell?_alloc_new]
        simpa [inCells, nmIn] using hj
    have hs : Sl bsR (W2.alloc (.cells #[.int .u32 a, .int .u32 z, .slice (some ⟨W1.heap.size, 0, none⟩) 1 1, .slice none 0 0, .slice none 0 0] 46)) All (.slice (some ⟨W2.heap.size, 0, none⟩) 1 1) [nmBs a] := by
      refine sl_of_chunks (R := bsR) (l := [nmBs a]) (c := 1) trivial (xs := [.int .u32 a, .int .u32 z, .slice (some ⟨W1.heap.size, 0, none⟩) 1 1, .slice none 0 0, .slice none 0 0]) ⟨[.int .u32 a, .int .u32 z, .slice (some ⟨W1.heap.size, 0, none⟩) 1 1, .slice none 0 0, .slice none 0 0], [], rfl, ⟨.slice (some ⟨W1.heap.size, 0, none⟩) 1 1, .slice none 0 0, .slice none 0 0, ?_, hi.ext ((Ext.refl _).alloc _), Sl.nil, Sl.nil, ha, Nat.mod_lt _ (by omega)⟩, rfl⟩ (fun j u hj => ?_) (by simp) (by decide)
      · show _ = [Value.int .u32 a, .int .u32 ((a + 1) % 4294967296 : Nat), _, _, _]
        rw [HZ.out]
      · rw [Nat.zero_add, World.cell?_alloc_new]
        simpa using hj
    rw [z2] at hs
    rw [← hW4]
    exact hs.ext ((Ext.refl _).alloc _))
  have HE4 : Hid (Sl u32R W4 All (.slice (some ⟨w.heap.size + 1 + 1 + 1, 0, none⟩) 2 2) [a, a]) := hid (by
    have h := sl_lit ((W1.alloc (.cells #[.int .u32 a, .int .u32 0, .int .i64 1, .int .i64 0, .int .i64 0, .int .i64 0, .int .i64 0, .int .i64 0, .int .i64 1] 45)).alloc (.cells #[.int .u32 a, .int .u32 z, .slice (some ⟨W1.heap.size, 0, none⟩) 1 1, .slice none 0 0, .slice none 0 0] 46)) [a, a] (by simp; exact ha) (by simp [maxLen]) 32
    have e : ((W1.alloc (.cells #[.int .u32 a, .int .u32 0, .int .i64 1, .int .i64 0, .int .i64 0, .int .i64 0, .int .i64 0, .int .i64 0, .int .i64 1] 45)).alloc (.cells #[.int .u32 a, .int .u32 z, .slice (some ⟨W1.heap.size, 0, none⟩) 1 1, .slice none 0 0, .slice none 0 0] 46)).heap.size = w.heap.size + 1 + 1 + 1 := by simp [z1]
    rw [e] at h
    rw [← hW4]
    exact h)
  have q0 : W1.cell? ⟨w.heap.size, 0, none⟩ = some (.int .u32 a) := by rw [← hW1]; simp [go_sem]
  have q1 : W1.cell? ⟨w.heap.size, 1, none⟩ = some (.int .u32 0) := by rw [← hW1]; simp [go_sem]
  have q2 : W1.cell? ⟨w.heap.size, 2, none⟩ = some (.int .i64 1) := by rw [← hW1]; simp [go_sem]
  have q3 : W1.cell? ⟨w.heap.size, 3, none⟩ = some (.int .i64 0) := by rw [← hW1]; simp [go_sem]
  have q4 : W1.cell? ⟨w.heap.size, 4, none⟩ = some (.int .i64 0) := by rw [← hW1]; simp [go_sem]
  have q5 : W1.cell? ⟨w.heap.size, 5, none⟩ = some (.int .i64 0) := by rw [← hW1]; simp [go_sem]
  have q6 : W1.cell? ⟨w.heap.size, 6, none⟩ = some (.int .i64 0) := by rw [← hW1]; simp [go_sem]
  have q7 : W1.cell? ⟨w.heap.size, 7, none⟩ = some (.int .i64 0) := by rw [← hW1]; simp [go_sem]
  have q8 : W1.cell? ⟨w.heap.size, 8, none⟩ = some (.int .i64 1) := by rw [← hW1]; simp [go_sem]
  have HXE := hid hE4
  rw [z1] at hW4
  clear hE1 hE4
  go_wp2_with fail
  refine (ffind2_any W4 (HT.out.ext HXE.out) (some ⟨w.heap.size + 1 + 1, 0, none⟩) (some ⟨w.heap.size + 1 + 1 + 1, 0, none⟩) A 1 1 2 2 n c [nmBs a] [a, a] l HS4.out HE4.out (HL.out.ext HXE.out) (by omega) (by omega) (by simp [nmBs]) (fun s hs => by have := HOK.out s hs; unfold maxLen; omega)).mono ?_
  rintro e w5 ⟨hx5, A5, c5, fs, rfl, hs5, -, h1, -⟩
  rw [nm_check, nm_asc] at h1 ⊢
  rw [nm_err] at h1 ⊢
  have hfs := h1 rfl
  have hf1 : FnsOf [nmBs a] (fnName l) [a] [⟨a, fnName l a, [a], [], true⟩] := by
    have h := FnsOf.snoc (FnsOf.nil (b := [nmBs a]) (nm := fnName l)) (nm_fn a (fnName l a))
    simpa using h
  obtain rfl := hfs.one hf1
  have HX5 := hid (HXE.out.trans hx5)
  obtain ⟨nm, hnm⟩ : ∃ nm, fnName l a = nm := ⟨_, rfl⟩
  rw [hnm] at hs5
  obtain ⟨b5, o5, bA, bc, cA, cc, rfl, hb5, -, -, hnm5, x0, x1, x2, -, x4⟩ := Sl_fn_at (k := 0) hs5 rfl
  have HB5 := hid hb5
  have HNM := hid hnm
  obtain ⟨o, ho⟩ : ∃ o, atSy l a = o := ⟨_, rfl⟩
  have HAT := hid (at6_any w5 A n c l (HL.out.ext HX5.out) a)
  rw [ho] at HAT
  have HO := hid ho
  rw [Nat.zero_mul, Nat.add_zero] at x0 x1 x2 x4
  have HXC := hid (And.intro x0 (And.intro x1 (And.intro x2 x4)))
  clear hx5 hs5 h1 hfs hf1 hb5 hnm ho hW4 hW1 q0 q1 q2 q3 q4 q5 q6 q7 q8 x0 x1 x2 x4 hzw z1
  go_wp2_with fail
  refine (HAT.out).mono ?_
  rintro e w6 ⟨hx6, rfl⟩
  have HX6 := hid hx6
  clear hx6
  cases o with
  | some s =>
    simp only [Option.getD_some, Option.isSome_some, syVal]
    obtain ⟨W7, hW7⟩ : ∃ W7, w6.alloc (.cells #[.string s.name, .int .u32 s.addr, .int .i64 s.kind] 48) = W7 := ⟨_, rfl⟩
    have hE7 : Ext w6 W7 := by rw [← hW7]; exact (Ext.refl w6).alloc _
    have y0 : W7.cell? ⟨w6.heap.size, 0, none⟩ = some (.string s.name) := by rw [← hW7]; simp [go_sem]
    have HE7 := hid hE7
    clear hE7
    have HWN : Hid (nm = s.name) := hid (by rw [← HNM.out]; unfold fnName; rw [HO.out])
    go_wp2_with fail
    clear hW7
    refine (hex6_any _ a ha).mono ?_
    rintro e w7 ⟨rfl, rfl⟩
    unfold hexS
    obtain ⟨H, hH⟩ : ∃ H, Go.Deco.strOf (48 :: 120 :: hexD a) = H := ⟨_, rfl⟩
    obtain ⟨D, hD⟩ : ∃ D, Go.Deco.strOf (hexD a) = D := ⟨_, rfl⟩
    obtain ⟨F, hF⟩ : ∃ F, Go.Deco.strOf (102 :: 95 :: hexD a) = F := ⟨_, rfl⟩
    have hex0 : H.extract 2 H.size = D := by rw [← hH, strOf_drop]; exact hD
    have hl9 : D.size ≤ 9 := by rw [← hD, strOf_size]; exact hexN_len 8 a
    have hH2 : H.size = 2 + D.size := by rw [← hH, ← hD, strOf_size, strOf_size]; simp; omega
    have hex : H.extract 2 (2 + D.size) = D := by rw [← hH2]; exact hex0
    have hap : (⟨#[102, 95]⟩ : ByteArray) ++ D = F := by
      rw [← hD, ← hF, show (⟨#[102, 95]⟩ : ByteArray) = Go.Deco.strOf [102, 95] from rfl, strOf_app]
      rfl
    rw [hH]
    try rw [hF] at HWN
    have hwn := HWN.out
    subst hwn
    have x0 := (HX6.out.trans HE7.out).cell HXC.out.1
    have x1 := (HX6.out.trans HE7.out).cell HXC.out.2.1
    have x2 := (HX6.out.trans HE7.out).cell HXC.out.2.2.1
    have x4 := (HX6.out.trans HE7.out).cell HXC.out.2.2.2
    have k2 : ¬ 9223372036854775807 < 2 + D.size := by omega
    have k3 : 2 ≤ H.size := by omega
    clear hH hD hF hex0
    go_wp2_with fail
    have hsa := sl_lit W7 [a] (by simp; exact ha) (by simp [maxLen]) 32
    refine (words_any (W7.alloc (Obj.cells #[.int .u32 a] 32)) _ (Ext.refl _) bA (some ⟨W7.heap.size, 0, none⟩) 1 1 bc 1 [a] [a] (HB5.out.ext ((HX6.out.trans HE7.out).alloc _)) hsa).mono ?_
    rintro e w8 ⟨rfl, hx8⟩
    have hd3 : decide (([a] : List Nat) = [a]) = true := by simp
    rw [hd3]
    have HX8 := hid (((HX5.out.trans HX6.out).trans HE7.out).trans (((Ext.refl W7).alloc _).trans hx8))
    clear hx8 hd3 hsa
    go_wp2_with fail
    refine (example_any _).mono ?_
    rintro e wz ⟨rfl, hxz⟩
    have HXZ := hid ((HX8.out).trans hxz)
    clear hxz
    go_wp2
    go_ret
    exact ⟨rfl, HXZ.out⟩
  | none =>
    simp only [Option.getD_none, Option.isSome_none, syVal, Sy.zero]
    obtain ⟨W7, hW7⟩ : ∃ W7, w6.alloc (.cells #[.string ⟨#[]⟩, .int .u32 0, .int .i64 0] 48) = W7 := ⟨_, rfl⟩
    have hE7 : Ext w6 W7 := by rw [← hW7]; exact (Ext.refl w6).alloc _
    have y0 : W7.cell? ⟨w6.heap.size, 0, none⟩ = some (.string ⟨#[]⟩) := by rw [← hW7]; simp [go_sem]
    have HE7 := hid hE7
    clear hE7
    have y1 : W7.cell? ⟨w6.heap.size, 1, none⟩ = some (.int .u32 0) := by rw [← hW7]; simp [go_sem]
    have y2 : W7.cell? ⟨w6.heap.size, 2, none⟩ = some (.int .i64 0) := by rw [← hW7]; simp [go_sem]
    have yf : ∀ j, W7.frozen? ⟨w6.heap.size, j, none⟩ = false := fun j => by rw [← hW7]; simp [go_sem]
    have hq0 : W7.setCell ⟨w6.heap.size, 0, none⟩ (.string ⟨#[]⟩) = W7 := by rw [← hW7]; simp [go_sem]
    have hq1 : W7.setCell ⟨w6.heap.size, 1, none⟩ (.int .u32 0) = W7 := by rw [← hW7]; simp [go_sem]
    have hq2 : W7.setCell ⟨w6.heap.size, 2, none⟩ (.int .i64 0) = W7 := by rw [← hW7]; simp [go_sem]
    have HWN : Hid (nm = (Go.Deco.strOf (102 :: 95 :: hexD a))) := hid (by rw [← HNM.out]; unfold fnName; rw [HO.out])
    go_wp2_with fail
    clear hW7
    refine (hex6_any _ a ha).mono ?_
    rintro e w7 ⟨rfl, rfl⟩
    unfold hexS
    obtain ⟨H, hH⟩ : ∃ H, Go.Deco.strOf (48 :: 120 :: hexD a) = H := ⟨_, rfl⟩
    obtain ⟨D, hD⟩ : ∃ D, Go.Deco.strOf (hexD a) = D := ⟨_, rfl⟩
    obtain ⟨F, hF⟩ : ∃ F, Go.Deco.strOf (102 :: 95 :: hexD a) = F := ⟨_, rfl⟩
    have hex0 : H.extract 2 H.size = D := by rw [← hH, strOf_drop]; exact hD
    have hl9 : D.size ≤ 9 := by rw [← hD, strOf_size]; exact hexN_len 8 a
    have hH2 : H.size = 2 + D.size := by rw [← hH, ← hD, strOf_size, strOf_size]; simp; omega
    have hex : H.extract 2 (2 + D.size) = D := by rw [← hH2]; exact hex0
    have hap : (⟨#[102, 95]⟩ : ByteArray) ++ D = F := by
      rw [← hD, ← hF, show (⟨#[102, 95]⟩ : ByteArray) = Go.Deco.strOf [102, 95] from rfl, strOf_app]
      rfl
    rw [hH]
    try rw [hF] at HWN
    have hwn := HWN.out
    subst hwn
    have x0 := (HX6.out.trans HE7.out).cell HXC.out.1
    have x1 := (HX6.out.trans HE7.out).cell HXC.out.2.1
    have x2 := (HX6.out.trans HE7.out).cell HXC.out.2.2.1
    have x4 := (HX6.out.trans HE7.out).cell HXC.out.2.2.2
    have k2 : ¬ 9223372036854775807 < 2 + D.size := by omega
    have k3 : 2 ≤ H.size := by omega
    clear hH hD hF hex0
    go_wp2_with fail
    have hsa := sl_lit W7 [a] (by simp; exact ha) (by simp [maxLen]) 32
    refine (words_any (W7.alloc (Obj.cells #[.int .u32 a] 32)) _ (Ext.refl _) bA (some ⟨W7.heap.size, 0, none⟩) 1 1 bc 1 [a] [a] (HB5.out.ext ((HX6.out.trans HE7.out).alloc _)) hsa).mono ?_
    rintro e w8 ⟨rfl, hx8⟩
    have hd3 : decide (([a] : List Nat) = [a]) = true := by simp
    rw [hd3]
    have HX8 := hid (((HX5.out.trans HX6.out).trans HE7.out).trans (((Ext.refl W7).alloc _).trans hx8))
    clear hx8 hd3 hsa
    go_wp2_with fail
    refine (example_any _).mono ?_
    rintro e wz ⟨rfl, hxz⟩
    have HXZ := hid ((HX8.out).trans hxz)
    clear hxz
    go_wp2
    go_ret
    exact ⟨rfl, HXZ.out⟩
end Go.Proofs.YtnlmhnbogleijaaDoor
