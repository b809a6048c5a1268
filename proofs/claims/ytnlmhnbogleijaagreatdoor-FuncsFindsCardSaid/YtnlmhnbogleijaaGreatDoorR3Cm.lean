/- decompilerref03: Valid, word, plain, bytesOf (their lengths), Length, Next. decompilerref03: bytesOf (its length), Length, Next. decompilerref03: Length, Next. -/
import Derived.Test.YtnlmhnbogleijaaGreatDoorR3Bm
import Derived.Test.YtnlmhnbogleijaaGreatDoorReg
import Derived.Test.YtnlmhnbogleijaaGreatDoorSplit
import Derived.Test.YtnlmhnbogleijaaGreatDoorLasm
import Derived.Test.YtnlmhnbogleijaaGreatDoorStAm
import Derived.Deep.CutBlock
import Derived.Deep.CutRange
import Derived.Test.YtnlmhnbogleijaaGreatDoorIsdm
namespace Go.Proofs.YtnlmhnbogleijaaGreatDoor
open Go.RowKit Go.Deco
set_option linter.unusedSimpArgs false
set_option linter.unusedVariables false
set_option maxRecDepth 100000

/-- Bytes of whatever value. -/
def b8R : Rep Unit where
  size := 1
  pos := by omega
  rel _ _ cs _ := ∃ n : Int, cs = [.int .u8 n]
  keep _ h := h
  mono _ h := h
  len h := by obtain ⟨n, rfl⟩ := h; rfl
  one h u hu := by obtain ⟨n, rfl⟩ := h; simp at hu; rw [hu]; rfl
theorem info_u8 : (Tryz.prog.info? 5).map (fun i => (i.zero, i.size, i.bytes)) = some (some (.int .u8 0), 1, 1) := by kernel_rfl
/-- A slice of some length. -/
def LenIs (w : World) (n : Nat) (e : Ending) (w' : World) : Prop := Ext w w' ∧ ∃ A c, e = .returned (.slice A n c)

def r3Val (i : In) : Bool := decide (r3Err i = 0)
theorem rvalid_any (w : World) (i : In) (hi : InOk i) : Calls Tryz.prog 98 #[inV i] w fun e w' => e = .returned (.bool (r3Val i)) ∧ Ext w w' := by
  obtain ⟨W0, hW0⟩ : ∃ W0, w.alloc (.cells #[.int .u32 i.addr, .int .u32 i.imm, .int .i64 i.op, .int .i64 i.form, .int .i64 i.width, .int .i64 i.cc, .int .i64 i.a, .int .i64 i.b, .int .i64 i.size] 77) = W0 := ⟨_, rfl⟩
  have hE : Ext w W0 := by rw [← hW0]; exact (Ext.refl w).alloc _
  have hB : Box9 W0 w.heap.size i := by rw [← hW0]; exact Box9.new w i _
  have HE := hid hE
  have HB := hid hB
  obtain ⟨c0, c1, c2, c3, c4, c5, c6, c7, c8⟩ := hB
  have e : inV i = .agg #[.int .u32 i.addr, .int .u32 i.imm, .int .i64 i.op, .int .i64 i.form, .int .i64 i.width, .int .i64 i.cc, .int .i64 i.a, .int .i64 i.b, .int .i64 i.size] := rfl
  rw [e]
  clear e hE
  obtain ⟨n, hn⟩ : ∃ n, r3Err i = n := ⟨_, rfl⟩
  have HC := hid (fun W => rcheck_any W i hi)
  have HV : Hid (r3Val i = decide (n = 0)) := hid (by unfold r3Val; rw [hn])
  rw [hn] at HC
  rw [HV.out]
  clear hn
  go_enter Tryz.func98, Tryz.ntmps98
  go_wp2_with fail
  refine (HC.out _).mono ?_
  rintro e w1 ⟨rfl, hw1⟩
  have HW1 := hid (HE.out.trans hw1)
  clear hw1 c0 c1 c2 c3 c4 c5 c6 c7 c8
  by_cases h : n = 0
  · subst h
    go_wp2
    go_ret
    exact ⟨by simp, HW1.out⟩
  · have hb : ((n : Int) == 0) = false := by simpa using h
    have HH := hid h
    clear h
    go_wp2
    go_ret
    exact ⟨ret_bool (by simp [HH.out]), HW1.out⟩

theorem b8_lit {w : World} {b : Nat} {cs : List Value} {t : TypeId} {f : Nat × Nat} (h : w.heap[b]? = some (.cells cs.toArray t f)) (hc : ∀ u ∈ cs, ∃ n : Int, u = .int .u8 n) (hl : cs.length ≤ 100) : Sl b8R w (fun d => d = b) (.slice (some ⟨b, 0, none⟩) cs.length cs.length) (List.replicate cs.length ()) := by
  have hch : ∀ cs : List Value, (∀ u ∈ cs, ∃ n : Int, u = .int .u8 n) → Chunks b8R w (fun d => d = b) cs (List.replicate cs.length ()) := by
    intro cs
    induction cs with
    | nil => intro _; rfl
    | cons u r ih =>
      intro h
      obtain ⟨n, rfl⟩ := h u (by simp)
      exact ⟨[.int .u8 n], r, rfl, ⟨n, rfl⟩, ih fun u hu => h u (by simp [hu])⟩
  have := sl_of_chunks (R := b8R) (S := fun d => d = b) (b := b) (off := 0) (c := cs.length) rfl (hch cs hc) (fun j u hj => ?_) (by simp) (by unfold maxLen; omega)
  · simpa using this
  · unfold World.cell?
    rw [h]
    simpa using hj
theorem World.alloc_at (w : World) (o : Obj) : (w.alloc o).heap[w.heap.size]? = some o := by show (w.heap.push o)[w.heap.size]? = some o; simp
theorem word_any (w : World) (n : Int) (hn : ∃ m : Nat, n = m) : Calls Tryz.prog 109 #[.int .u32 n] w fun e w' => Ext w w' ∧ ∃ A, e = .returned (.slice A 4 4) ∧ Sl b8R w' (fun b => w.heap.size ≤ b ∧ b < w'.heap.size) (.slice A 4 4) [(), (), (), ()] := by
  obtain ⟨n, rfl⟩ := hn
  go_enter Tryz.func109, Tryz.ntmps109
  go_wp2
  go_ret
  refine ⟨(Ext.refl w).alloc _, _, rfl, ?_⟩
  refine (b8_lit (b := w.heap.size) (cs := [.int .u8 ((n : Int) % 256), .int .u8 ((n : Int) / 256 % 256), .int .u8 ((n : Int) / 65536 % 256), .int .u8 ((n : Int) / 16777216 % 256)]) (t := 5) (f := (0, 0)) (World.alloc_at w _) ?_ (by simp)).mono fun b hb hc => ⟨by subst hb; exact Nat.le_refl _, hc.lt⟩
  intro u hu
  simp only [List.mem_cons, List.not_mem_nil, or_false] at hu
  rcases hu with rfl | rfl | rfl | rfl <;> exact ⟨_, rfl⟩

def plainSz (op : Int) : Nat := if op = 24 ∨ op = 21 ∨ op = 25 ∨ op = 26 ∨ op = 27 then 2 else 1
set_option maxHeartbeats 4000000 in
theorem plain_any (w : World) (i : In) : Calls Tryz.prog 112 #[inV i] w (LenIs w (plainSz i.op)) := by
  obtain ⟨W0, hW0⟩ : ∃ W0, w.alloc (.cells #[.int .u32 i.addr, .int .u32 i.imm, .int .i64 i.op, .int .i64 i.form, .int .i64 i.width, .int .i64 i.cc, .int .i64 i.a, .int .i64 i.b, .int .i64 i.size] 77) = W0 := ⟨_, rfl⟩
  have hE : Ext w W0 := by rw [← hW0]; exact (Ext.refl w).alloc _
  have hB : Box9 W0 w.heap.size i := by rw [← hW0]; exact Box9.new w i _
  have HE := hid hE
  have HB := hid hB
  obtain ⟨c0, c1, c2, c3, c4, c5, c6, c7, c8⟩ := hB
  have e : inV i = .agg #[.int .u32 i.addr, .int .u32 i.imm, .int .i64 i.op, .int .i64 i.form, .int .i64 i.width, .int .i64 i.cc, .int .i64 i.a, .int .i64 i.b, .int .i64 i.size] := rfl
  rw [e]
  clear e hE
  go_enter Tryz.func112, Tryz.ntmps112
  by_cases z3 : i.op = 3
  case pos =>
    have n3 : (i.op == 3) = true := by simpa using z3
    have HP : Hid (plainSz i.op = 1) := hid (by simp [plainSz, z3])
    clear z3
    go_wp2
    go_ret
    rw [HP.out]
    exact ⟨HE.out.alloc _, _, _, rfl⟩
  have n3 : (i.op == 3) = false := by simpa using z3
  have HH3 := hid z3
  clear z3
  by_cases z4 : i.op = 4
  case pos =>
    have n4 : (i.op == 4) = true := by simpa using z4
    have HP : Hid (plainSz i.op = 1) := hid (by simp [plainSz, z4])
    clear z4
    go_wp2
    go_ret
    rw [HP.out]
    exact ⟨HE.out.alloc _, _, _, rfl⟩
  have n4 : (i.op == 4) = false := by simpa using z4
  have HH4 := hid z4
  clear z4
  by_cases z24 : i.op = 24
  case pos =>
    have n24 : (i.op == 24) = true := by simpa using z24
    have HP : Hid (plainSz i.op = 2) := hid (by simp [plainSz, z24])
    clear z24
    go_wp2
    go_ret
    rw [HP.out]
    exact ⟨HE.out.alloc _, _, _, rfl⟩
  have n24 : (i.op == 24) = false := by simpa using z24
  have HH24 := hid z24
  clear z24
  by_cases z21 : i.op = 21
  case pos =>
    have n21 : (i.op == 21) = true := by simpa using z21
    have HP : Hid (plainSz i.op = 2) := hid (by simp [plainSz, z21])
    clear z21
    go_wp2
    go_ret
    rw [HP.out]
    exact ⟨HE.out.alloc _, _, _, rfl⟩
  have n21 : (i.op == 21) = false := by simpa using z21
  have HH21 := hid z21
  clear z21
  by_cases z25 : i.op = 25
  case pos =>
    have n25 : (i.op == 25) = true := by simpa using z25
    have HP : Hid (plainSz i.op = 2) := hid (by simp [plainSz, z25])
    clear z25
    go_wp2
    go_ret
    rw [HP.out]
    exact ⟨HE.out.alloc _, _, _, rfl⟩
  have n25 : (i.op == 25) = false := by simpa using z25
  have HH25 := hid z25
  clear z25
  by_cases z26 : i.op = 26
  case pos =>
    have n26 : (i.op == 26) = true := by simpa using z26
    have HP : Hid (plainSz i.op = 2) := hid (by simp [plainSz, z26])
    clear z26
    go_wp2
    go_ret
    rw [HP.out]
    exact ⟨HE.out.alloc _, _, _, rfl⟩
  have n26 : (i.op == 26) = false := by simpa using z26
  have HH26 := hid z26
  clear z26
  by_cases z27 : i.op = 27
  case pos =>
    have n27 : (i.op == 27) = true := by simpa using z27
    have HP : Hid (plainSz i.op = 2) := hid (by simp [plainSz, z27])
    clear z27
    go_wp2
    go_ret
    rw [HP.out]
    exact ⟨HE.out.alloc _, _, _, rfl⟩
  have n27 : (i.op == 27) = false := by simpa using z27
  have HH27 := hid z27
  clear z27
  have HP : Hid (plainSz i.op = 1) := hid (by simp [plainSz, HH24.out, HH21.out, HH25.out, HH26.out, HH27.out])
  go_wp2
  go_ret
  rw [HP.out]
  exact ⟨HE.out.alloc _, _, _, rfl⟩
set_option maxHeartbeats 4000000 in
theorem acode_any (w : World) (i : In) : Calls Tryz.prog 111 #[inV i] w fun e w' => (∃ n : Int, e = .returned (.int .i64 n)) ∧ Ext w w' := by
  obtain ⟨W0, hW0⟩ : ∃ W0, w.alloc (.cells #[.int .u32 i.addr, .int .u32 i.imm, .int .i64 i.op, .int .i64 i.form, .int .i64 i.width, .int .i64 i.cc, .int .i64 i.a, .int .i64 i.b, .int .i64 i.size] 77) = W0 := ⟨_, rfl⟩
  have hE : Ext w W0 := by rw [← hW0]; exact (Ext.refl w).alloc _
  have hB : Box9 W0 w.heap.size i := by rw [← hW0]; exact Box9.new w i _
  have HE := hid hE
  have HB := hid hB
  obtain ⟨c0, c1, c2, c3, c4, c5, c6, c7, c8⟩ := hB
  have e : inV i = .agg #[.int .u32 i.addr, .int .u32 i.imm, .int .i64 i.op, .int .i64 i.form, .int .i64 i.width, .int .i64 i.cc, .int .i64 i.a, .int .i64 i.b, .int .i64 i.size] := rfl
  rw [e]
  clear e hE
  go_enter Tryz.func111, Tryz.ntmps111
  by_cases z17 : i.op = 17
  · have n17 : (i.op == 17) = true := by simpa using z17
    clear z17
    go_wp2
    go_ret
    exact ⟨⟨_, rfl⟩, HE.out⟩
  have n17 : (i.op == 17) = false := by simpa using z17
  clear z17
  by_cases z18 : i.op = 18
  · have n18 : (i.op == 18) = true := by simpa using z18
    have n16 : (i.op == 16) = false := by simp [z18]
    clear z18
    by_cases w1 : i.width = 1
    · have b1 : (i.width == 1) = true := by simpa using w1
      clear w1
      go_wp2
      go_ret
      exact ⟨⟨_, rfl⟩, HE.out⟩
    have b1 : (i.width == 1) = false := by simpa using w1
    clear w1
    by_cases w2 : i.width = 2
    · have b2 : (i.width == 2) = true := by simpa using w2
      clear w2
      go_wp2
      go_ret
      exact ⟨⟨_, rfl⟩, HE.out⟩
    have b2 : (i.width == 2) = false := by simpa using w2
    clear w2
    go_wp2
    go_ret
    exact ⟨⟨_, rfl⟩, HE.out⟩
  have n18 : (i.op == 18) = false := by simpa using z18
  clear z18
  by_cases w1 : i.width = 1
  · have b1 : (i.width == 1) = true := by simpa using w1
    clear w1
    go_wp2
    go_ret
    exact ⟨⟨_, rfl⟩, HE.out⟩
  have b1 : (i.width == 1) = false := by simpa using w1
  clear w1
  by_cases w2 : i.width = 2
  · have b2 : (i.width == 2) = true := by simpa using w2
    clear w2
    by_cases z16 : i.op = 16
    · have n16 : (i.op == 16) = true := by simpa using z16
      clear z16
      go_wp2
      go_ret
      exact ⟨⟨_, rfl⟩, HE.out⟩
    have n16 : (i.op == 16) = false := by simpa using z16
    clear z16
    go_wp2
    go_ret
    exact ⟨⟨_, rfl⟩, HE.out⟩
  have b2 : (i.width == 2) = false := by simpa using w2
  clear w2
  go_wp2
  go_ret
  exact ⟨⟨_, rfl⟩, HE.out⟩
end Go.Proofs.YtnlmhnbogleijaaGreatDoor

namespace Go.Proofs.YtnlmhnbogleijaaGreatDoor
open Go.RowKit Go.Deco
set_option linter.unusedSimpArgs false
set_option linter.unusedVariables false
set_option maxRecDepth 100000

theorem keep2 {w w' : World} {p q : Addr} {u v : Value} (h : w.cell? p = some u ∧ w.cell? q = some v) (he : Ext w w') : w'.cell? p = some u ∧ w'.cell? q = some v := ⟨he.cell h.1, he.cell h.2⟩
theorem keep3 {w w' : World} {p q r : Addr} {u v x : Value} (h : w.cell? p = some u ∧ w.cell? q = some v ∧ w.cell? r = some x) (he : Ext w w') : w'.cell? p = some u ∧ w'.cell? q = some v ∧ w'.cell? r = some x := ⟨he.cell h.1, he.cell h.2.1, he.cell h.2.2⟩
theorem r3alloc {a w : World} (h : Ext a w) (o : Obj) : ∃ wA sz, w.alloc o = wA ∧ w.heap.size = sz ∧ Ext w wA ∧ a.heap.size ≤ sz ∧ wA.heap[sz]? = some o := ⟨_, _, rfl, rfl, (Ext.refl w).alloc o, h.size, by show (w.heap.push o)[w.heap.size]? = some o; simp⟩
theorem own_b8 {w : World} {g base : Nat} {cs : List Value} (h : w.heap[g]? = some (.cells cs.toArray 5 (0, 0))) (hb : base ≤ g) (hc : ∀ u ∈ cs, ∃ n : Int, u = .int .u8 n) (hl : cs.length ≤ 100) : OwnS b8R w base 5 All (.slice (some ⟨g, 0, none⟩) cs.length cs.length) (List.replicate cs.length ()) := by
  have hch : ∀ (S : Nat → Prop) (cs : List Value), (∀ u ∈ cs, ∃ n : Int, u = .int .u8 n) → Chunks b8R w S cs (List.replicate cs.length ()) := by
    intro S cs
    induction cs with
    | nil => intro _; rfl
    | cons u r ih =>
      intro h
      obtain ⟨n, rfl⟩ := h u (by simp)
      exact ⟨[.int .u8 n], r, rfl, ⟨n, rfl⟩, ih fun u hu => h u (by simp [hu])⟩
  refine ⟨cs, ⟨by simp [b8R], .inr ⟨g, cs.length, cs.toArray, by simp, hb, h, by simp, by unfold maxLen; omega, by simp [b8R], by simp [b8R]⟩⟩, hch _ cs hc⟩
set_option maxHeartbeats 4000000 in
theorem rbytes_any (w : World) (i : In) (hi : InOk i) : Calls Tryz.prog 99 #[inV i] w (LenIs w (r3Size i)) := by
  have hw3 : ∀ n : Int, IntKind.u32.wrap n = ((w32d n : Nat) : Int) := fun n => by unfold w32d; simp [IntKind.wrap, IntKind.signed, IntKind.bits]; omega
  obtain ⟨k0, hkf, hk0, hk1, hk2⟩ := info_parts info_u8
  have HKF := hid hkf
  have HK0 := hid hk0
  have HK1 := hid hk1
  have HK2 := hid hk2
  clear hkf hk0 hk1 hk2
  obtain ⟨W0, hW0⟩ : ∃ W0, w.alloc (.cells #[.int .u32 i.addr, .int .u32 i.imm, .int .i64 i.op, .int .i64 i.form, .int .i64 i.width, .int .i64 i.cc, .int .i64 i.a, .int .i64 i.b, .int .i64 i.size] 77) = W0 := ⟨_, rfl⟩
  have hE : Ext w W0 := by rw [← hW0]; exact (Ext.refl w).alloc _
  have hB : Box9 W0 w.heap.size i := by rw [← hW0]; exact Box9.new w i _
  have HE := hid hE
  have HB := hid hB
  obtain ⟨c0, c1, c2, c3, c4, c5, c6, c7, c8⟩ := hB
  have e : inV i = .agg #[.int .u32 i.addr, .int .u32 i.imm, .int .i64 i.op, .int .i64 i.form, .int .i64 i.width, .int .i64 i.cc, .int .i64 i.a, .int .i64 i.b, .int .i64 i.size] := rfl
  rw [e]
  clear e hE
  go_enter Tryz.func99, Tryz.ntmps99
  go_upto_region 2 with fail
  obtain ⟨ab, hab⟩ : ∃ v, wrap64 (wrap64 (16 * i.a) + i.b) % 256 = v := ⟨_, rfl⟩
  rw [hab]
  clear hab
  go_wp2_with fail
  refine (two_any _ _).mono ?_
  rintro e w1 ⟨rfl, hw1⟩
  subst hw1
  obtain ⟨t, ht⟩ : ∃ b, twoB i.op = b := ⟨_, rfl⟩
  rw [ht]
  have Ht := hid ht
  clear ht
  cases t with
  | true =>
    go_upto_region 4 with fail
    obtain ⟨kv, hkv⟩ : ∃ v, wrap64 (i.op - 5) = v := ⟨_, rfl⟩
    rw [hkv]
    clear hkv
    by_cases f0 : i.form = 0
    · have g0 : (i.form == 0) = true := by simpa using f0
      have F0 := hid f0
      clear f0
      have HP : Hid (r3Size i = 2) := hid (by simp [r3Size, Ht.out, F0.out])
      go_wp2
      go_ret
      rw [HP.out]
      exact ⟨HE.out.alloc _, _, _, rfl⟩
    have g0 : (i.form == 0) = false := by simpa using f0
    have F0 := hid f0
    clear f0
    by_cases f1 : i.form = 1
    · have g1 : (i.form == 1) = true := by simpa using f1
      have F1 := hid f1
      clear f1
      have HP : Hid (r3Size i = 3) := hid (by simp [r3Size, Ht.out, F1.out])
      go_wp2
      go_ret
      rw [HP.out]
      exact ⟨HE.out.alloc _, _, _, rfl⟩
    have g1 : (i.form == 1) = false := by simpa using f1
    have F1 := hid f1
    clear f1
    have HP : Hid (r3Size i = 6) := hid (by simp [r3Size, Ht.out, F0.out, F1.out])
    go_wp2_with fail
    have HXg1q_0 := hid ((Ext.refl W0).drew)
    refine wp_region_held_drew (S := (fun w' => w'.cell? ⟨w.heap.size, 6, none⟩ = some (.int .i64 i.a) ∧ w'.cell? ⟨w.heap.size, 1, none⟩ = some (.int .u32 i.imm))) (by kernel_rfl) ⟨c6, c1⟩ (fun hSg1q0 => ?_)
    refine wpAnyH_takeL (i := 0) (v := ?g1qv0x1) rfl (by kernel_rfl) (by kernel_rfl) (by kernel_rfl) (fun _ _ _ h => h) (Or.inl ⟨by rfl, ?g1qy0x1⟩) (by assumption) ?g1qr0x1
    case g1qy0x1 => first | (intro w hSw; (try dsimp only at hSw); go_simp; done) | (intro w hSw; (try dsimp only at hSw); go_simp; with_reducible rfl)
    case' g1qr0x1 => try simp only [Act.put, List.setIfInBounds_toArray, List.set_cons_zero, List.set_cons_succ]
    refine wpAnyH_takeL (i := 1) (v := ?g1qv1x2) rfl (by kernel_rfl) (by kernel_rfl) (by kernel_rfl) (fun _ _ _ h => h) (Or.inl ⟨by rfl, ?g1qy1x2⟩) (by assumption) ?g1qr1x2
    case g1qy1x2 => first | (intro w hSw; (try dsimp only at hSw); go_simp; done) | (intro w hSw; (try dsimp only at hSw); go_simp; with_reducible rfl)
    case' g1qr1x2 => try simp only [Act.put, List.setIfInBounds_toArray, List.set_cons_zero, List.set_cons_succ]
    refine wpAnyH_takeL (i := 2) (v := ?g1qv2x3) rfl (by kernel_rfl) (by kernel_rfl) (by kernel_rfl) (fun _ _ _ h => h) (Or.inl ⟨by rfl, ?g1qy2x3⟩) (by assumption) ?g1qr2x3
    case g1qy2x3 => first | (intro w hSw; (try dsimp only at hSw); go_simp; done) | (intro w hSw; (try dsimp only at hSw); go_simp; with_reducible rfl)
    case' g1qr2x3 => try simp only [Act.put, List.setIfInBounds_toArray, List.set_cons_zero, List.set_cons_succ]
    refine wpAnyH_takeL (i := 3) (v := ?g1qv3x4) rfl (by kernel_rfl) (by kernel_rfl) (by kernel_rfl) (fun _ _ _ h => h) (Or.inl ⟨by rfl, ?g1qy3x4⟩) (by assumption) ?g1qr3x4
    case g1qy3x4 => first | (intro w hSw; (try dsimp only at hSw); go_simp; done) | (intro w hSw; (try dsimp only at hSw); go_simp; with_reducible rfl)
    case' g1qr3x4 => try simp only [Act.put, List.setIfInBounds_toArray, List.set_cons_zero, List.set_cons_succ]
    refine wpAnyH_takeL (i := 4) (v := ?g1qv4x5) rfl (by kernel_rfl) (by kernel_rfl) (by kernel_rfl) (fun _ _ _ h => h) (Or.inl ⟨by rfl, ?g1qy4x5⟩) (by assumption) ?g1qr4x5
    case g1qy4x5 => first | (intro w hSw; (try dsimp only at hSw); go_simp; done) | (intro w hSw; (try dsimp only at hSw); go_simp; with_reducible rfl)
    case' g1qr4x5 => try simp only [Act.put, List.setIfInBounds_toArray, List.set_cons_zero, List.set_cons_succ]
    refine wpAnyH_takeL (i := 5) (v := ?g1qv5x6) rfl (by kernel_rfl) (by kernel_rfl) (by kernel_rfl) (fun _ _ _ h => h) (Or.inl ⟨by rfl, ?g1qy5x6⟩) (by assumption) ?g1qr5x6
    case g1qy5x6 => first | (intro w hSw; (try dsimp only at hSw); go_simp; done) | (intro w hSw; (try dsimp only at hSw); go_simp; with_reducible rfl)
    case' g1qr5x6 => try simp only [Act.put, List.setIfInBounds_toArray, List.set_cons_zero, List.set_cons_succ]
    refine wpAnyH_takeL (i := 7) (v := ?g1qv7x7) rfl (by kernel_rfl) (by kernel_rfl) (by kernel_rfl) (fun _ _ _ h => h) (Or.inl ⟨by rfl, ?g1qy7x7⟩) (by assumption) ?g1qr7x7
    case g1qy7x7 => first | (intro w hSw; (try dsimp only at hSw); go_simp; done) | (intro w hSw; (try dsimp only at hSw); go_simp; with_reducible rfl)
    case' g1qr7x7 => try simp only [Act.put, List.setIfInBounds_toArray, List.set_cons_zero, List.set_cons_succ]
    refine wpAnyH_takeL (i := 8) (v := ?g1qv8x8) rfl (by kernel_rfl) (by kernel_rfl) (by kernel_rfl) (fun _ _ _ h => h) (Or.inl ⟨by rfl, ?g1qy8x8⟩) (by assumption) ?g1qr8x8
    case g1qy8x8 => first | (intro w hSw; (try dsimp only at hSw); go_simp; done) | (intro w hSw; (try dsimp only at hSw); go_simp; with_reducible rfl)
    case' g1qr8x8 => try simp only [Act.put, List.setIfInBounds_toArray, List.set_cons_zero, List.set_cons_succ]
    refine wpAnyH_ready (rs := [6, 9]) (by kernel_rfl) (by simp) ?_
    refine (AllReadyH.consL rfl (fun K hK => ?g1qb6x9) (AllReadyH.consL rfl (fun K hK => ?g1qb9x9) AllReadyH.nil))
    case' g1qb6x9 =>
      go_simp
      obtain ⟨wZ, aZ, hA, hsz, hEg1q1, hge, hob⟩ := r3alloc HXg1q_0.out (.cells #[.int .u8 (IntKind.u8.wrap (IntKind.i64.wrap (64 + kv))), .int .u8 (IntKind.u8.wrap i.a)] 5)
      refine Eq.mpr (congrArg (K _) hA) ?_
      first | rw [hsz] | (have hq : W0.heap.size = aZ := hsz; rw [hq]; clear hq) | skip
      have HLIT : Hid (OwnS b8R wZ W0.heap.size 5 All (.slice (some ⟨aZ, 0, none⟩) 2 2) [(), ()]) := hid (own_b8 (cs := [_, _]) hob hge (by simp) (by simp))
      have HSZ := hid hsz
      clear hA hsz hge hob
      have HXg1q_1 := hid (HXg1q_0.out.trans hEg1q1)
      clear hEg1q1
      refine hK.out _ _ (keep2 ⟨c6, c1⟩ HXg1q_1.out) (fun hSg1q1 => ?_)
      clear hK K
      try simp only [Act.put, List.setIfInBounds_toArray, List.set_cons_zero, List.set_cons_succ]
      refine wpAnyH_ready (rs := [9]) (by kernel_rfl) (by simp) ?_
      refine (AllReadyH.consL rfl (fun K hK => ?g1qb9x10) AllReadyH.nil)
      case' g1qb9x10 =>
        go_simp
        go_at_call 109
        try have HLT := hid (HLIT.out.block)
        refine (word_any _ _ (by first | exact ⟨_, rfl⟩ | exact ⟨_, hw3 _⟩)).mono ?_
        rintro e8 w8 ⟨hEg1q2, A8, rfl, ho8⟩
        have HWD := hid ho8
        clear ho8
        have HXg1q_2 := hid (HXg1q_1.out.trans hEg1q2)
        have HLIT := hid (HLIT.out.ext hEg1q2)
        clear hEg1q2
        refine hK.out _ _ (keep2 ⟨c6, c1⟩ HXg1q_2.out) (fun hSg1q2 => ?_)
        clear hK K
        try simp only [Act.put, List.setIfInBounds_toArray, List.set_cons_zero, List.set_cons_succ]
        refine wpAnyH_ready (rs := [10]) (by kernel_rfl) (by simp) ?_
        refine (AllReadyH.consL rfl (fun K hK => ?g1qb10x11) AllReadyH.nil)
        case' g1qb10x11 =>
          refine step_appS rfl (.tmp 46) (.tmp 49) 121 rfl W0.heap.size 5 k0 _ 1 1 Tryz.underlying121 HKF.out HK0.out HK1.out HK2.out rfl b8R rfl (.slice (some ⟨aZ, 0, none⟩) 2 2) [(), ()] rfl HLIT.out A8 4 4 [(), (), (), ()] _ rfl HWD.out (fun d hd _ => ⟨trivial, fun e => by first | (have h1 := (HLT.out d e.symm).2; have h2 := hd.1; omega) | (have h1 := HSZ.out; have h2 : d < w8.heap.size := hd.2; have h3 : d = aZ := Option.some.inj e; omega)⟩) (by simp) (by simp) (by exact HXg1q_2.out.size) ?_
          intro A9 c9 w9 hown9 hg9
          have HXF := hid (HXg1q_2.out.grown hg9 (fun k hk => (HLIT.out.block _ hk).1))
          have HXg1q_3 := HXF
          clear hown9 hg9
          refine hK.out _ _ (keep2 ⟨c6, c1⟩ HXg1q_3.out) (fun hSg1q3 => ?_)
          clear hK K
          try simp only [Act.put, List.setIfInBounds_toArray, List.set_cons_zero, List.set_cons_succ]
          refine wpAnyH_takeL (i := 11) (v := ?g1qv11x12) rfl (by kernel_rfl) (by kernel_rfl) (by kernel_rfl) (fun _ _ _ h => h) (Or.inl ⟨by rfl, ?g1qy11x12⟩) (by assumption) ?g1qr11x12
          case g1qy11x12 => first | (intro w hSw; (try dsimp only at hSw); go_simp; done) | (intro w hSw; (try dsimp only at hSw); go_simp; with_reducible rfl)
          case' g1qr11x12 => try simp only [Act.put, List.setIfInBounds_toArray, List.set_cons_zero, List.set_cons_succ]
          refine wpAnyH_done (by kernel_rfl) ?_ _
          go_wp2
          go_ret
          rw [HP.out]
          exact ⟨HE.out.trans HXF.out, _, _, rfl⟩
    case' g1qb9x9 =>
      go_simp
      go_at_call 109
      try have HLT := hid (HLIT.out.block)
      refine (word_any _ _ (by first | exact ⟨_, rfl⟩ | exact ⟨_, hw3 _⟩)).mono ?_
      rintro e8 w8 ⟨hEg1q1, A8, rfl, ho8⟩
      have HWD := hid ho8
      clear ho8
      have HXg1q_1 := hid (HXg1q_0.out.trans hEg1q1)
      clear hEg1q1
      refine hK.out _ _ (keep2 ⟨c6, c1⟩ HXg1q_1.out) (fun hSg1q1 => ?_)
      clear hK K
      try simp only [Act.put, List.setIfInBounds_toArray, List.set_cons_zero, List.set_cons_succ]
      refine wpAnyH_ready (rs := [6]) (by kernel_rfl) (by simp) ?_
      refine (AllReadyH.consL rfl (fun K hK => ?g1qb6x13) AllReadyH.nil)
      case' g1qb6x13 =>
        go_simp
        obtain ⟨wZ, aZ, hA, hsz, hEg1q2, hge, hob⟩ := r3alloc HXg1q_1.out (.cells #[.int .u8 (IntKind.u8.wrap (IntKind.i64.wrap (64 + kv))), .int .u8 (IntKind.u8.wrap i.a)] 5)
        refine Eq.mpr (congrArg (K _) hA) ?_
        first | rw [hsz] | (have hq : W0.heap.size = aZ := hsz; rw [hq]; clear hq) | skip
        have HLIT : Hid (OwnS b8R wZ W0.heap.size 5 All (.slice (some ⟨aZ, 0, none⟩) 2 2) [(), ()]) := hid (own_b8 (cs := [_, _]) hob hge (by simp) (by simp))
        have HSZ := hid hsz
        clear hA hsz hge hob
        have HXg1q_2 := hid (HXg1q_1.out.trans hEg1q2)
        have HWD := hid (HWD.out.ext hEg1q2)
        clear hEg1q2
        refine hK.out _ _ (keep2 ⟨c6, c1⟩ HXg1q_2.out) (fun hSg1q2 => ?_)
        clear hK K
        try simp only [Act.put, List.setIfInBounds_toArray, List.set_cons_zero, List.set_cons_succ]
        refine wpAnyH_ready (rs := [10]) (by kernel_rfl) (by simp) ?_
        refine (AllReadyH.consL rfl (fun K hK => ?g1qb10x14) AllReadyH.nil)
        case' g1qb10x14 =>
          refine step_appS rfl (.tmp 46) (.tmp 49) 121 rfl W0.heap.size 5 k0 _ 1 1 Tryz.underlying121 HKF.out HK0.out HK1.out HK2.out rfl b8R rfl (.slice (some ⟨aZ, 0, none⟩) 2 2) [(), ()] rfl HLIT.out A8 4 4 [(), (), (), ()] _ rfl HWD.out (fun d hd _ => ⟨trivial, fun e => by first | (have h1 := (HLT.out d e.symm).2; have h2 := hd.1; omega) | (have h1 := HSZ.out; have h2 : d < w8.heap.size := hd.2; have h3 : d = aZ := Option.some.inj e; omega)⟩) (by simp) (by simp) (by exact HXg1q_2.out.size) ?_
          intro A9 c9 w9 hown9 hg9
          have HXF := hid (HXg1q_2.out.grown hg9 (fun k hk => (HLIT.out.block _ hk).1))
          have HXg1q_3 := HXF
          clear hown9 hg9
          refine hK.out _ _ (keep2 ⟨c6, c1⟩ HXg1q_3.out) (fun hSg1q3 => ?_)
          clear hK K
          try simp only [Act.put, List.setIfInBounds_toArray, List.set_cons_zero, List.set_cons_succ]
          refine wpAnyH_takeL (i := 11) (v := ?g1qv11x15) rfl (by kernel_rfl) (by kernel_rfl) (by kernel_rfl) (fun _ _ _ h => h) (Or.inl ⟨by rfl, ?g1qy11x15⟩) (by assumption) ?g1qr11x15
          case g1qy11x15 => first | (intro w hSw; (try dsimp only at hSw); go_simp; done) | (intro w hSw; (try dsimp only at hSw); go_simp; with_reducible rfl)
          case' g1qr11x15 => try simp only [Act.put, List.setIfInBounds_toArray, List.set_cons_zero, List.set_cons_succ]
          refine wpAnyH_done (by kernel_rfl) ?_ _
          go_wp2
          go_ret
          rw [HP.out]
          exact ⟨HE.out.trans HXF.out, _, _, rfl⟩
  | false =>
    go_wp2_with fail
    refine (acc_any _ _).mono ?_
    rintro e w1 ⟨rfl, hw1⟩
    subst hw1
    obtain ⟨u, hu⟩ : ∃ b, accB i.op = b := ⟨_, rfl⟩
    rw [hu]
    have Hu := hid hu
    clear hu
    cases u with
    | true =>
      have HP : Hid (r3Size i = 3) := hid (by simp [r3Size, Ht.out, Hu.out])
      have HAC := hid (fun W => acode_any W i)
      have e9 : inV i = .agg #[.int .u32 i.addr, .int .u32 i.imm, .int .i64 i.op, .int .i64 i.form, .int .i64 i.width, .int .i64 i.cc, .int .i64 i.a, .int .i64 i.b, .int .i64 i.size] := rfl
      rw [e9] at HAC
      clear e9
      go_wp2_with fail
      refine wp_region_held_drew (S := (fun w' => w'.cell? ⟨w.heap.size, 0, none⟩ = some (.int .u32 i.addr) ∧ w'.cell? ⟨w.heap.size, 1, none⟩ = some (.int .u32 i.imm) ∧ w'.cell? ⟨w.heap.size, 2, none⟩ = some (.int .i64 i.op) ∧ w'.cell? ⟨w.heap.size, 3, none⟩ = some (.int .i64 i.form) ∧ w'.cell? ⟨w.heap.size, 4, none⟩ = some (.int .i64 i.width) ∧ w'.cell? ⟨w.heap.size, 5, none⟩ = some (.int .i64 i.cc) ∧ w'.cell? ⟨w.heap.size, 6, none⟩ = some (.int .i64 i.a) ∧ w'.cell? ⟨w.heap.size, 7, none⟩ = some (.int .i64 i.b) ∧ w'.cell? ⟨w.heap.size, 8, none⟩ = some (.int .i64 i.size))) (by kernel_rfl) ⟨c0, c1, c2, c3, c4, c5, c6, c7, c8⟩ (fun hSg2q0 => ?_)
      refine wpAnyH_takeL (i := 0) (v := ?g2qv0) rfl (by kernel_rfl) (by kernel_rfl) (by kernel_rfl) (fun _ _ _ h => h) (Or.inl ⟨by rfl, ?g2qy0⟩) (by assumption) ?g2qr0
      case g2qy0 => first | (intro w hSw; (try dsimp only at hSw); go_simp; done) | (intro w hSw; (try dsimp only at hSw); go_simp; with_reducible rfl)
      case' g2qr0 => try simp only [Act.put, List.setIfInBounds_toArray, List.set_cons_zero, List.set_cons_succ]
      refine wpAnyH_takeL (i := 3) (v := ?g2qv3) rfl (by kernel_rfl) (by kernel_rfl) (by kernel_rfl) (fun _ _ _ h => h) (Or.inl ⟨by rfl, ?g2qy3⟩) (by assumption) ?g2qr3
      case g2qy3 => first | (intro w hSw; (try dsimp only at hSw); go_simp; done) | (intro w hSw; (try dsimp only at hSw); go_simp; with_reducible rfl)
      case' g2qr3 => try simp only [Act.put, List.setIfInBounds_toArray, List.set_cons_zero, List.set_cons_succ]
      refine wpAnyH_takeL (i := 4) (v := ?g2qv4) rfl (by kernel_rfl) (by kernel_rfl) (by kernel_rfl) (fun _ _ _ h => h) (Or.inl ⟨by rfl, ?g2qy4⟩) (by assumption) ?g2qr4
      case g2qy4 => first | (intro w hSw; (try dsimp only at hSw); go_simp; done) | (intro w hSw; (try dsimp only at hSw); go_simp; with_reducible rfl)
      case' g2qr4 => try simp only [Act.put, List.setIfInBounds_toArray, List.set_cons_zero, List.set_cons_succ]
      refine wpAnyH_takeL (i := 5) (v := ?g2qv5) rfl (by kernel_rfl) (by kernel_rfl) (by kernel_rfl) (fun _ _ _ h => h) (Or.inl ⟨by rfl, ?g2qy5⟩) (by assumption) ?g2qr5
      case g2qy5 => first | (intro w hSw; (try dsimp only at hSw); go_simp; done) | (intro w hSw; (try dsimp only at hSw); go_simp; with_reducible rfl)
      case' g2qr5 => try simp only [Act.put, List.setIfInBounds_toArray, List.set_cons_zero, List.set_cons_succ]
      refine wpAnyH_takeL (i := 6) (v := ?g2qv6) rfl (by kernel_rfl) (by kernel_rfl) (by kernel_rfl) (fun _ _ _ h => h) (Or.inl ⟨by rfl, ?g2qy6⟩) (by assumption) ?g2qr6
      case g2qy6 => first | (intro w hSw; (try dsimp only at hSw); go_simp; done) | (intro w hSw; (try dsimp only at hSw); go_simp; with_reducible rfl)
      case' g2qr6 => try simp only [Act.put, List.setIfInBounds_toArray, List.set_cons_zero, List.set_cons_succ]
      refine wpAnyH_takeL (i := 7) (v := ?g2qv7) rfl (by kernel_rfl) (by kernel_rfl) (by kernel_rfl) (fun _ _ _ h => h) (Or.inl ⟨by rfl, ?g2qy7⟩) (by assumption) ?g2qr7
      case g2qy7 => first | (intro w hSw; (try dsimp only at hSw); go_simp; done) | (intro w hSw; (try dsimp only at hSw); go_simp; with_reducible rfl)
      case' g2qr7 => try simp only [Act.put, List.setIfInBounds_toArray, List.set_cons_zero, List.set_cons_succ]
      refine wpAnyH_ready (rs := [1]) (by kernel_rfl) (by simp) ?_
      refine AllReadyH.consL rfl (fun K hK => ?_) AllReadyH.nil
      go_simp
      go_at_call 111
      refine (HAC.out _).mono ?_
      rintro e8 w8 ⟨⟨n8, rfl⟩, hx8⟩
      have HX8 := hid hx8.drew_left
      clear hx8
      refine hK.out _ _ ⟨HX8.out.cell c0, HX8.out.cell c1, HX8.out.cell c2, HX8.out.cell c3, HX8.out.cell c4, HX8.out.cell c5, HX8.out.cell c6, HX8.out.cell c7, HX8.out.cell c8⟩ (fun hSg2q1 => ?_)
      clear hK K
      try simp only [Act.put, List.setIfInBounds_toArray, List.set_cons_zero, List.set_cons_succ]
      refine wpAnyH_takeL (i := 2) (v := ?g2qv2) rfl (by kernel_rfl) (by kernel_rfl) (by kernel_rfl) (fun _ _ _ h => h) (Or.inl ⟨by rfl, ?g2qy2⟩) (by assumption) ?g2qr2
      case g2qy2 => first | (intro w hSw; (try dsimp only at hSw); go_simp; done) | (intro w hSw; (try dsimp only at hSw); go_simp; with_reducible rfl)
      case' g2qr2 => try simp only [Act.put, List.setIfInBounds_toArray, List.set_cons_zero, List.set_cons_succ]
      refine wpAnyH_ready (rs := [8]) (by kernel_rfl) (by simp) ?_
      refine AllReadyH.consL rfl (fun K hK => ?_) AllReadyH.nil
      go_simp
      refine hK.out _ _ ⟨(HX8.out.alloc _).cell c0, (HX8.out.alloc _).cell c1, (HX8.out.alloc _).cell c2, (HX8.out.alloc _).cell c3, (HX8.out.alloc _).cell c4, (HX8.out.alloc _).cell c5, (HX8.out.alloc _).cell c6, (HX8.out.alloc _).cell c7, (HX8.out.alloc _).cell c8⟩ (fun hSg2q2 => ?_)
      clear hK K
      try simp only [Act.put, List.setIfInBounds_toArray, List.set_cons_zero, List.set_cons_succ]
      refine wpAnyH_takeL (i := 9) (v := ?g2qv9) rfl (by kernel_rfl) (by kernel_rfl) (by kernel_rfl) (fun _ _ _ h => h) (Or.inl ⟨by rfl, ?g2qy9⟩) (by assumption) ?g2qr9
      case g2qy9 => first | (intro w hSw; (try dsimp only at hSw); go_simp; done) | (intro w hSw; (try dsimp only at hSw); go_simp; with_reducible rfl)
      case' g2qr9 => try simp only [Act.put, List.setIfInBounds_toArray, List.set_cons_zero, List.set_cons_succ]
      refine wpAnyH_done (by kernel_rfl) ?_ _
      go_wp2
      go_ret
      rw [HP.out]
      exact ⟨HE.out.trans (HX8.out.alloc _), _, _, rfl⟩
    | false =>
      by_cases z19 : i.op = 19
      · have n19 : (i.op == 19) = true := by simpa using z19
        have H19 := hid z19
        clear z19
        have HP : Hid (r3Size i = 3) := hid (by unfold r3Size; rw [if_neg (by rw [Ht.out]; simp), if_neg (by rw [Hu.out]; simp)]; simp [H19.out])
        go_wp2
        go_ret
        rw [HP.out]
        exact ⟨HE.out.alloc _, _, _, rfl⟩
      have n19 : (i.op == 19) = false := by simpa using z19
      have H19 := hid z19
      clear z19
      by_cases z20 : i.op = 20
      · have n20 : (i.op == 20) = true := by simpa using z20
        have H20 := hid z20
        clear z20
        by_cases f1 : i.form = 1
        · have g1 : (i.form == 1) = true := by simpa using f1
          have F1 := hid f1
          clear f1
          have HP : Hid (r3Size i = 2) := hid (by unfold r3Size; rw [if_neg (by rw [Ht.out]; simp), if_neg (by rw [Hu.out]; simp)]; simp [H19.out, H20.out, F1.out])
          go_wp2
          go_ret
          rw [HP.out]
          exact ⟨HE.out.alloc _, _, _, rfl⟩
        have g1 : (i.form == 1) = false := by simpa using f1
        have F1 := hid f1
        clear f1
        have HP : Hid (r3Size i = 5) := hid (by unfold r3Size; rw [if_neg (by rw [Ht.out]; simp), if_neg (by rw [Hu.out]; simp)]; simp [H19.out, H20.out, F1.out])
        go_wp2_with fail
        have HXg3q_0 := hid ((Ext.refl W0).drew)
        refine wp_region_held_drew (S := (fun w' => w'.cell? ⟨w.heap.size, 5, none⟩ = some (.int .i64 i.cc) ∧ w'.cell? ⟨w.heap.size, 1, none⟩ = some (.int .u32 i.imm) ∧ w'.cell? ⟨w.heap.size, 0, none⟩ = some (.int .u32 i.addr))) (by kernel_rfl) ⟨c5, c1, c0⟩ (fun hSg3q0 => ?_)
        refine wpAnyH_takeL (i := 0) (v := ?g3qv0x1) rfl (by kernel_rfl) (by kernel_rfl) (by kernel_rfl) (fun _ _ _ h => h) (Or.inl ⟨by rfl, ?g3qy0x1⟩) (by assumption) ?g3qr0x1
        case g3qy0x1 => first | (intro w hSw; (try dsimp only at hSw); go_simp; done) | (intro w hSw; (try dsimp only at hSw); go_simp; with_reducible rfl)
        case' g3qr0x1 => try simp only [Act.put, List.setIfInBounds_toArray, List.set_cons_zero, List.set_cons_succ]
        refine wpAnyH_takeL (i := 1) (v := ?g3qv1x2) rfl (by kernel_rfl) (by kernel_rfl) (by kernel_rfl) (fun _ _ _ h => h) (Or.inl ⟨by rfl, ?g3qy1x2⟩) (by assumption) ?g3qr1x2
        case g3qy1x2 => first | (intro w hSw; (try dsimp only at hSw); go_simp; done) | (intro w hSw; (try dsimp only at hSw); go_simp; with_reducible rfl)
        case' g3qr1x2 => try simp only [Act.put, List.setIfInBounds_toArray, List.set_cons_zero, List.set_cons_succ]
        refine wpAnyH_takeL (i := 2) (v := ?g3qv2x3) rfl (by kernel_rfl) (by kernel_rfl) (by kernel_rfl) (fun _ _ _ h => h) (Or.inl ⟨by rfl, ?g3qy2x3⟩) (by assumption) ?g3qr2x3
        case g3qy2x3 => first | (intro w hSw; (try dsimp only at hSw); go_simp; done) | (intro w hSw; (try dsimp only at hSw); go_simp; with_reducible rfl)
        case' g3qr2x3 => try simp only [Act.put, List.setIfInBounds_toArray, List.set_cons_zero, List.set_cons_succ]
        refine wpAnyH_takeL (i := 3) (v := ?g3qv3x4) rfl (by kernel_rfl) (by kernel_rfl) (by kernel_rfl) (fun _ _ _ h => h) (Or.inl ⟨by rfl, ?g3qy3x4⟩) (by assumption) ?g3qr3x4
        case g3qy3x4 => first | (intro w hSw; (try dsimp only at hSw); go_simp; done) | (intro w hSw; (try dsimp only at hSw); go_simp; with_reducible rfl)
        case' g3qr3x4 => try simp only [Act.put, List.setIfInBounds_toArray, List.set_cons_zero, List.set_cons_succ]
        refine wpAnyH_takeL (i := 5) (v := ?g3qv5x5) rfl (by kernel_rfl) (by kernel_rfl) (by kernel_rfl) (fun _ _ _ h => h) (Or.inl ⟨by rfl, ?g3qy5x5⟩) (by assumption) ?g3qr5x5
        case g3qy5x5 => first | (intro w hSw; (try dsimp only at hSw); go_simp; done) | (intro w hSw; (try dsimp only at hSw); go_simp; with_reducible rfl)
        case' g3qr5x5 => try simp only [Act.put, List.setIfInBounds_toArray, List.set_cons_zero, List.set_cons_succ]
        refine wpAnyH_takeL (i := 6) (v := ?g3qv6x6) rfl (by kernel_rfl) (by kernel_rfl) (by kernel_rfl) (fun _ _ _ h => h) (Or.inl ⟨by rfl, ?g3qy6x6⟩) (by assumption) ?g3qr6x6
        case g3qy6x6 => first | (intro w hSw; (try dsimp only at hSw); go_simp; done) | (intro w hSw; (try dsimp only at hSw); go_simp; with_reducible rfl)
        case' g3qr6x6 => try simp only [Act.put, List.setIfInBounds_toArray, List.set_cons_zero, List.set_cons_succ]
        refine wpAnyH_takeL (i := 7) (v := ?g3qv7x7) rfl (by kernel_rfl) (by kernel_rfl) (by kernel_rfl) (fun _ _ _ h => h) (Or.inl ⟨by rfl, ?g3qy7x7⟩) (by assumption) ?g3qr7x7
        case g3qy7x7 => first | (intro w hSw; (try dsimp only at hSw); go_simp; done) | (intro w hSw; (try dsimp only at hSw); go_simp; with_reducible rfl)
        case' g3qr7x7 => try simp only [Act.put, List.setIfInBounds_toArray, List.set_cons_zero, List.set_cons_succ]
        refine wpAnyH_takeL (i := 8) (v := ?g3qv8x8) rfl (by kernel_rfl) (by kernel_rfl) (by kernel_rfl) (fun _ _ _ h => h) (Or.inl ⟨by rfl, ?g3qy8x8⟩) (by assumption) ?g3qr8x8
        case g3qy8x8 => first | (intro w hSw; (try dsimp only at hSw); go_simp; done) | (intro w hSw; (try dsimp only at hSw); go_simp; with_reducible rfl)
        case' g3qr8x8 => try simp only [Act.put, List.setIfInBounds_toArray, List.set_cons_zero, List.set_cons_succ]
        refine wpAnyH_takeL (i := 9) (v := ?g3qv9x9) rfl (by kernel_rfl) (by kernel_rfl) (by kernel_rfl) (fun _ _ _ h => h) (Or.inl ⟨by rfl, ?g3qy9x9⟩) (by assumption) ?g3qr9x9
        case g3qy9x9 => first | (intro w hSw; (try dsimp only at hSw); go_simp; done) | (intro w hSw; (try dsimp only at hSw); go_simp; with_reducible rfl)
        case' g3qr9x9 => try simp only [Act.put, List.setIfInBounds_toArray, List.set_cons_zero, List.set_cons_succ]
        refine wpAnyH_takeL (i := 10) (v := ?g3qv10x10) rfl (by kernel_rfl) (by kernel_rfl) (by kernel_rfl) (fun _ _ _ h => h) (Or.inl ⟨by rfl, ?g3qy10x10⟩) (by assumption) ?g3qr10x10
        case g3qy10x10 => first | (intro w hSw; (try dsimp only at hSw); go_simp; done) | (intro w hSw; (try dsimp only at hSw); go_simp; with_reducible rfl)
        case' g3qr10x10 => try simp only [Act.put, List.setIfInBounds_toArray, List.set_cons_zero, List.set_cons_succ]
        refine wpAnyH_ready (rs := [4, 11]) (by kernel_rfl) (by simp) ?_
        refine (AllReadyH.consL rfl (fun K hK => ?g3qb4x11) (AllReadyH.consL rfl (fun K hK => ?g3qb11x11) AllReadyH.nil))
        case' g3qb4x11 =>
          go_simp
          obtain ⟨wZ, aZ, hA, hsz, hEg3q1, hge, hob⟩ := r3alloc HXg3q_0.out (.cells #[.int .u8 (IntKind.u8.wrap (IntKind.i64.wrap (112 + i.cc)))] 5)
          refine Eq.mpr (congrArg (K _) hA) ?_
          first | rw [hsz] | (have hq : W0.heap.size = aZ := hsz; rw [hq]; clear hq) | skip
          have HLIT : Hid (OwnS b8R wZ W0.heap.size 5 All (.slice (some ⟨aZ, 0, none⟩) 1 1) [()]) := hid (own_b8 (cs := [_]) hob hge (by simp) (by simp))
          have HSZ := hid hsz
          clear hA hsz hge hob
          have HXg3q_1 := hid (HXg3q_0.out.trans hEg3q1)
          clear hEg3q1
          refine hK.out _ _ (keep3 ⟨c5, c1, c0⟩ HXg3q_1.out) (fun hSg3q1 => ?_)
          clear hK K
          try simp only [Act.put, List.setIfInBounds_toArray, List.set_cons_zero, List.set_cons_succ]
          refine wpAnyH_ready (rs := [11]) (by kernel_rfl) (by simp) ?_
          refine (AllReadyH.consL rfl (fun K hK => ?g3qb11x12) AllReadyH.nil)
          case' g3qb11x12 =>
            go_simp
            go_at_call 109
            try have HLT := hid (HLIT.out.block)
            refine (word_any _ _ (by first | exact ⟨_, rfl⟩ | exact ⟨_, hw3 _⟩)).mono ?_
            rintro e8 w8 ⟨hEg3q2, A8, rfl, ho8⟩
            have HWD := hid ho8
            clear ho8
            have HXg3q_2 := hid (HXg3q_1.out.trans hEg3q2)
            have HLIT := hid (HLIT.out.ext hEg3q2)
            clear hEg3q2
            refine hK.out _ _ (keep3 ⟨c5, c1, c0⟩ HXg3q_2.out) (fun hSg3q2 => ?_)
            clear hK K
            try simp only [Act.put, List.setIfInBounds_toArray, List.set_cons_zero, List.set_cons_succ]
            refine wpAnyH_ready (rs := [12]) (by kernel_rfl) (by simp) ?_
            refine (AllReadyH.consL rfl (fun K hK => ?g3qb12x13) AllReadyH.nil)
            case' g3qb12x13 =>
              refine step_appS rfl (.tmp 95) (.tmp 102) 121 rfl W0.heap.size 5 k0 _ 1 1 Tryz.underlying121 HKF.out HK0.out HK1.out HK2.out rfl b8R rfl (.slice (some ⟨aZ, 0, none⟩) 1 1) [()] rfl HLIT.out A8 4 4 [(), (), (), ()] _ rfl HWD.out (fun d hd _ => ⟨trivial, fun e => by first | (have h1 := (HLT.out d e.symm).2; have h2 := hd.1; omega) | (have h1 := HSZ.out; have h2 : d < w8.heap.size := hd.2; have h3 : d = aZ := Option.some.inj e; omega)⟩) (by simp) (by simp) (by exact HXg3q_2.out.size) ?_
              intro A9 c9 w9 hown9 hg9
              have HXF := hid (HXg3q_2.out.grown hg9 (fun k hk => (HLIT.out.block _ hk).1))
              have HXg3q_3 := HXF
              clear hown9 hg9
              refine hK.out _ _ (keep3 ⟨c5, c1, c0⟩ HXg3q_3.out) (fun hSg3q3 => ?_)
              clear hK K
              try simp only [Act.put, List.setIfInBounds_toArray, List.set_cons_zero, List.set_cons_succ]
              refine wpAnyH_takeL (i := 13) (v := ?g3qv13x14) rfl (by kernel_rfl) (by kernel_rfl) (by kernel_rfl) (fun _ _ _ h => h) (Or.inl ⟨by rfl, ?g3qy13x14⟩) (by assumption) ?g3qr13x14
              case g3qy13x14 => first | (intro w hSw; (try dsimp only at hSw); go_simp; done) | (intro w hSw; (try dsimp only at hSw); go_simp; with_reducible rfl)
              case' g3qr13x14 => try simp only [Act.put, List.setIfInBounds_toArray, List.set_cons_zero, List.set_cons_succ]
              refine wpAnyH_done (by kernel_rfl) ?_ _
              go_wp2
              go_ret
              rw [HP.out]
              exact ⟨HE.out.trans HXF.out, _, _, rfl⟩
        case' g3qb11x11 =>
          go_simp
          go_at_call 109
          try have HLT := hid (HLIT.out.block)
          refine (word_any _ _ (by first | exact ⟨_, rfl⟩ | exact ⟨_, hw3 _⟩)).mono ?_
          rintro e8 w8 ⟨hEg3q1, A8, rfl, ho8⟩
          have HWD := hid ho8
          clear ho8
          have HXg3q_1 := hid (HXg3q_0.out.trans hEg3q1)
          clear hEg3q1
          refine hK.out _ _ (keep3 ⟨c5, c1, c0⟩ HXg3q_1.out) (fun hSg3q1 => ?_)
          clear hK K
          try simp only [Act.put, List.setIfInBounds_toArray, List.set_cons_zero, List.set_cons_succ]
          refine wpAnyH_ready (rs := [4]) (by kernel_rfl) (by simp) ?_
          refine (AllReadyH.consL rfl (fun K hK => ?g3qb4x15) AllReadyH.nil)
          case' g3qb4x15 =>
            go_simp
            obtain ⟨wZ, aZ, hA, hsz, hEg3q2, hge, hob⟩ := r3alloc HXg3q_1.out (.cells #[.int .u8 (IntKind.u8.wrap (IntKind.i64.wrap (112 + i.cc)))] 5)
            refine Eq.mpr (congrArg (K _) hA) ?_
            first | rw [hsz] | (have hq : W0.heap.size = aZ := hsz; rw [hq]; clear hq) | skip
            have HLIT : Hid (OwnS b8R wZ W0.heap.size 5 All (.slice (some ⟨aZ, 0, none⟩) 1 1) [()]) := hid (own_b8 (cs := [_]) hob hge (by simp) (by simp))
            have HSZ := hid hsz
            clear hA hsz hge hob
            have HXg3q_2 := hid (HXg3q_1.out.trans hEg3q2)
            have HWD := hid (HWD.out.ext hEg3q2)
            clear hEg3q2
            refine hK.out _ _ (keep3 ⟨c5, c1, c0⟩ HXg3q_2.out) (fun hSg3q2 => ?_)
            clear hK K
            try simp only [Act.put, List.setIfInBounds_toArray, List.set_cons_zero, List.set_cons_succ]
            refine wpAnyH_ready (rs := [12]) (by kernel_rfl) (by simp) ?_
            refine (AllReadyH.consL rfl (fun K hK => ?g3qb12x16) AllReadyH.nil)
            case' g3qb12x16 =>
              refine step_appS rfl (.tmp 95) (.tmp 102) 121 rfl W0.heap.size 5 k0 _ 1 1 Tryz.underlying121 HKF.out HK0.out HK1.out HK2.out rfl b8R rfl (.slice (some ⟨aZ, 0, none⟩) 1 1) [()] rfl HLIT.out A8 4 4 [(), (), (), ()] _ rfl HWD.out (fun d hd _ => ⟨trivial, fun e => by first | (have h1 := (HLT.out d e.symm).2; have h2 := hd.1; omega) | (have h1 := HSZ.out; have h2 : d < w8.heap.size := hd.2; have h3 : d = aZ := Option.some.inj e; omega)⟩) (by simp) (by simp) (by exact HXg3q_2.out.size) ?_
              intro A9 c9 w9 hown9 hg9
              have HXF := hid (HXg3q_2.out.grown hg9 (fun k hk => (HLIT.out.block _ hk).1))
              have HXg3q_3 := HXF
              clear hown9 hg9
              refine hK.out _ _ (keep3 ⟨c5, c1, c0⟩ HXg3q_3.out) (fun hSg3q3 => ?_)
              clear hK K
              try simp only [Act.put, List.setIfInBounds_toArray, List.set_cons_zero, List.set_cons_succ]
              refine wpAnyH_takeL (i := 13) (v := ?g3qv13x17) rfl (by kernel_rfl) (by kernel_rfl) (by kernel_rfl) (fun _ _ _ h => h) (Or.inl ⟨by rfl, ?g3qy13x17⟩) (by assumption) ?g3qr13x17
              case g3qy13x17 => first | (intro w hSw; (try dsimp only at hSw); go_simp; done) | (intro w hSw; (try dsimp only at hSw); go_simp; with_reducible rfl)
              case' g3qr13x17 => try simp only [Act.put, List.setIfInBounds_toArray, List.set_cons_zero, List.set_cons_succ]
              refine wpAnyH_done (by kernel_rfl) ?_ _
              go_wp2
              go_ret
              rw [HP.out]
              exact ⟨HE.out.trans HXF.out, _, _, rfl⟩
      have n20 : (i.op == 20) = false := by simpa using z20
      have H20 := hid z20
      clear z20
      by_cases z23 : i.op = 23
      · have n23 : (i.op == 23) = true := by simpa using z23
        have HP : Hid (r3Size i = 5) := hid (by unfold r3Size; rw [if_neg (by rw [Ht.out]; simp), if_neg (by rw [Hu.out]; simp)]; simp [H19.out, H20.out, z23])
        clear z23
        obtain ⟨W1, hW1⟩ : ∃ W1, W0.alloc (.cells #[.int .u8 128] 5) = W1 := ⟨_, rfl⟩
        have hE1 : Ext W0 W1 := by rw [← hW1]; exact (Ext.refl W0).alloc _
        have d0 := hE1.cell c0
        have d1 := hE1.cell c1
        have HLIT : Hid (OwnS b8R W1 W0.heap.size 5 All (.slice (some ⟨W0.heap.size, 0, none⟩) 1 1) [()]) := hid (own_b8 (cs := [.int .u8 128]) (by rw [← hW1]; exact World.alloc_at _ _) (Nat.le_refl _) (by simp) (by simp))
        have HE1 := hid hE1
        have HSZ : Hid (W1.heap.size = W0.heap.size + 1) := hid (by rw [← hW1]; simp)
        clear hE1
        go_wp2_with fail
        refine (word_any _ _ (by first | exact ⟨_, rfl⟩ | exact ⟨_, hw3 _⟩)).mono ?_
        rintro e8 w8 ⟨hx8, A8, rfl, ho8⟩
        have HX8 := hid (HE1.out.trans hx8)
        have HL8 := hid (HLIT.out.ext hx8)
        have HWD := hid ho8
        clear hx8 ho8 hW1 d0 d1 c0 c1 c2 c3 c4 c5 c6 c7 c8
        go_wp2_with (first
          | (at_builtin; refine wpList_appS rfl (.tmp 106) (.tmp 113) 121 rfl W0.heap.size 5 k0 _ 1 1 Tryz.underlying121 HKF.out HK0.out HK1.out HK2.out rfl b8R rfl (.slice (some ⟨W0.heap.size, 0, none⟩) 1 1) [()] rfl HL8.out A8 4 4 [(), (), (), ()] _ rfl HWD.out (fun d hd _ => ⟨trivial, fun e => by have h1 := HSZ.out; have h2 : W1.heap.size ≤ d := hd.1; have h3 : d = W0.heap.size := Option.some.inj e; omega⟩) (by simp) (by simp) (by exact HX8.out.size) ?_; intro A9 c9 w9 hown9 hg9 _; have HXF := hid (HX8.out.grown hg9 (fun k hk => (HL8.out.block _ hk).1)); clear hown9 hg9)
          | fail)
        go_ret
        rw [HP.out]
        exact ⟨HE.out.trans HXF.out, _, _, rfl⟩
      have n23 : (i.op == 23) = false := by simpa using z23
      have H23 := hid z23
      clear z23
      by_cases z22 : i.op = 22
      · have n22 : (i.op == 22) = true := by simpa using z22
        have HP : Hid (r3Size i = 6) := hid (by unfold r3Size; rw [if_neg (by rw [Ht.out]; simp), if_neg (by rw [Hu.out]; simp)]; simp [H19.out, H20.out, H23.out, z22])
        clear z22
        go_wp2_with fail
        have HXg4q_0 := hid ((Ext.refl W0).drew)
        refine wp_region_held_drew (S := (fun w' => w'.cell? ⟨w.heap.size, 6, none⟩ = some (.int .i64 i.a) ∧ w'.cell? ⟨w.heap.size, 1, none⟩ = some (.int .u32 i.imm))) (by kernel_rfl) ⟨c6, c1⟩ (fun hSg4q0 => ?_)
        refine wpAnyH_takeL (i := 0) (v := ?g4qv0x1) rfl (by kernel_rfl) (by kernel_rfl) (by kernel_rfl) (fun _ _ _ h => h) (Or.inl ⟨by rfl, ?g4qy0x1⟩) (by assumption) ?g4qr0x1
        case g4qy0x1 => first | (intro w hSw; (try dsimp only at hSw); go_simp; done) | (intro w hSw; (try dsimp only at hSw); go_simp; with_reducible rfl)
        case' g4qr0x1 => try simp only [Act.put, List.setIfInBounds_toArray, List.set_cons_zero, List.set_cons_succ]
        refine wpAnyH_takeL (i := 1) (v := ?g4qv1x2) rfl (by kernel_rfl) (by kernel_rfl) (by kernel_rfl) (fun _ _ _ h => h) (Or.inl ⟨by rfl, ?g4qy1x2⟩) (by assumption) ?g4qr1x2
        case g4qy1x2 => first | (intro w hSw; (try dsimp only at hSw); go_simp; done) | (intro w hSw; (try dsimp only at hSw); go_simp; with_reducible rfl)
        case' g4qr1x2 => try simp only [Act.put, List.setIfInBounds_toArray, List.set_cons_zero, List.set_cons_succ]
        refine wpAnyH_takeL (i := 2) (v := ?g4qv2x3) rfl (by kernel_rfl) (by kernel_rfl) (by kernel_rfl) (fun _ _ _ h => h) (Or.inl ⟨by rfl, ?g4qy2x3⟩) (by assumption) ?g4qr2x3
        case g4qy2x3 => first | (intro w hSw; (try dsimp only at hSw); go_simp; done) | (intro w hSw; (try dsimp only at hSw); go_simp; with_reducible rfl)
        case' g4qr2x3 => try simp only [Act.put, List.setIfInBounds_toArray, List.set_cons_zero, List.set_cons_succ]
        refine wpAnyH_takeL (i := 4) (v := ?g4qv4x4) rfl (by kernel_rfl) (by kernel_rfl) (by kernel_rfl) (fun _ _ _ h => h) (Or.inl ⟨by rfl, ?g4qy4x4⟩) (by assumption) ?g4qr4x4
        case g4qy4x4 => first | (intro w hSw; (try dsimp only at hSw); go_simp; done) | (intro w hSw; (try dsimp only at hSw); go_simp; with_reducible rfl)
        case' g4qr4x4 => try simp only [Act.put, List.setIfInBounds_toArray, List.set_cons_zero, List.set_cons_succ]
        refine wpAnyH_takeL (i := 5) (v := ?g4qv5x5) rfl (by kernel_rfl) (by kernel_rfl) (by kernel_rfl) (fun _ _ _ h => h) (Or.inl ⟨by rfl, ?g4qy5x5⟩) (by assumption) ?g4qr5x5
        case g4qy5x5 => first | (intro w hSw; (try dsimp only at hSw); go_simp; done) | (intro w hSw; (try dsimp only at hSw); go_simp; with_reducible rfl)
        case' g4qr5x5 => try simp only [Act.put, List.setIfInBounds_toArray, List.set_cons_zero, List.set_cons_succ]
        refine wpAnyH_ready (rs := [3, 6]) (by kernel_rfl) (by simp) ?_
        refine (AllReadyH.consL rfl (fun K hK => ?g4qb3x6) (AllReadyH.consL rfl (fun K hK => ?g4qb6x6) AllReadyH.nil))
        case' g4qb3x6 =>
          go_simp
          obtain ⟨wZ, aZ, hA, hsz, hEg4q1, hge, hob⟩ := r3alloc HXg4q_0.out (.cells #[.int .u8 131, .int .u8 (IntKind.u8.wrap i.a)] 5)
          refine Eq.mpr (congrArg (K _) hA) ?_
          first | rw [hsz] | (have hq : W0.heap.size = aZ := hsz; rw [hq]; clear hq) | skip
          have HLIT : Hid (OwnS b8R wZ W0.heap.size 5 All (.slice (some ⟨aZ, 0, none⟩) 2 2) [(), ()]) := hid (own_b8 (cs := [_, _]) hob hge (by simp) (by simp))
          have HSZ := hid hsz
          clear hA hsz hge hob
          have HXg4q_1 := hid (HXg4q_0.out.trans hEg4q1)
          clear hEg4q1
          refine hK.out _ _ (keep2 ⟨c6, c1⟩ HXg4q_1.out) (fun hSg4q1 => ?_)
          clear hK K
          try simp only [Act.put, List.setIfInBounds_toArray, List.set_cons_zero, List.set_cons_succ]
          refine wpAnyH_ready (rs := [6]) (by kernel_rfl) (by simp) ?_
          refine (AllReadyH.consL rfl (fun K hK => ?g4qb6x7) AllReadyH.nil)
          case' g4qb6x7 =>
            go_simp
            go_at_call 109
            try have HLT := hid (HLIT.out.block)
            refine (word_any _ _ (by first | exact ⟨_, rfl⟩ | exact ⟨_, hw3 _⟩)).mono ?_
            rintro e8 w8 ⟨hEg4q2, A8, rfl, ho8⟩
            have HWD := hid ho8
            clear ho8
            have HXg4q_2 := hid (HXg4q_1.out.trans hEg4q2)
            have HLIT := hid (HLIT.out.ext hEg4q2)
            clear hEg4q2
            refine hK.out _ _ (keep2 ⟨c6, c1⟩ HXg4q_2.out) (fun hSg4q2 => ?_)
            clear hK K
            try simp only [Act.put, List.setIfInBounds_toArray, List.set_cons_zero, List.set_cons_succ]
            refine wpAnyH_ready (rs := [7]) (by kernel_rfl) (by simp) ?_
            refine (AllReadyH.consL rfl (fun K hK => ?g4qb7x8) AllReadyH.nil)
            case' g4qb7x8 =>
              refine step_appS rfl (.tmp 120) (.tmp 123) 121 rfl W0.heap.size 5 k0 _ 1 1 Tryz.underlying121 HKF.out HK0.out HK1.out HK2.out rfl b8R rfl (.slice (some ⟨aZ, 0, none⟩) 2 2) [(), ()] rfl HLIT.out A8 4 4 [(), (), (), ()] _ rfl HWD.out (fun d hd _ => ⟨trivial, fun e => by first | (have h1 := (HLT.out d e.symm).2; have h2 := hd.1; omega) | (have h1 := HSZ.out; have h2 : d < w8.heap.size := hd.2; have h3 : d = aZ := Option.some.inj e; omega)⟩) (by simp) (by simp) (by exact HXg4q_2.out.size) ?_
              intro A9 c9 w9 hown9 hg9
              have HXF := hid (HXg4q_2.out.grown hg9 (fun k hk => (HLIT.out.block _ hk).1))
              have HXg4q_3 := HXF
              clear hown9 hg9
              refine hK.out _ _ (keep2 ⟨c6, c1⟩ HXg4q_3.out) (fun hSg4q3 => ?_)
              clear hK K
              try simp only [Act.put, List.setIfInBounds_toArray, List.set_cons_zero, List.set_cons_succ]
              refine wpAnyH_takeL (i := 8) (v := ?g4qv8x9) rfl (by kernel_rfl) (by kernel_rfl) (by kernel_rfl) (fun _ _ _ h => h) (Or.inl ⟨by rfl, ?g4qy8x9⟩) (by assumption) ?g4qr8x9
              case g4qy8x9 => first | (intro w hSw; (try dsimp only at hSw); go_simp; done) | (intro w hSw; (try dsimp only at hSw); go_simp; with_reducible rfl)
              case' g4qr8x9 => try simp only [Act.put, List.setIfInBounds_toArray, List.set_cons_zero, List.set_cons_succ]
              refine wpAnyH_done (by kernel_rfl) ?_ _
              go_wp2
              go_ret
              rw [HP.out]
              exact ⟨HE.out.trans HXF.out, _, _, rfl⟩
        case' g4qb6x6 =>
          go_simp
          go_at_call 109
          try have HLT := hid (HLIT.out.block)
          refine (word_any _ _ (by first | exact ⟨_, rfl⟩ | exact ⟨_, hw3 _⟩)).mono ?_
          rintro e8 w8 ⟨hEg4q1, A8, rfl, ho8⟩
          have HWD := hid ho8
          clear ho8
          have HXg4q_1 := hid (HXg4q_0.out.trans hEg4q1)
          clear hEg4q1
          refine hK.out _ _ (keep2 ⟨c6, c1⟩ HXg4q_1.out) (fun hSg4q1 => ?_)
          clear hK K
          try simp only [Act.put, List.setIfInBounds_toArray, List.set_cons_zero, List.set_cons_succ]
          refine wpAnyH_ready (rs := [3]) (by kernel_rfl) (by simp) ?_
          refine (AllReadyH.consL rfl (fun K hK => ?g4qb3x10) AllReadyH.nil)
          case' g4qb3x10 =>
            go_simp
            obtain ⟨wZ, aZ, hA, hsz, hEg4q2, hge, hob⟩ := r3alloc HXg4q_1.out (.cells #[.int .u8 131, .int .u8 (IntKind.u8.wrap i.a)] 5)
            refine Eq.mpr (congrArg (K _) hA) ?_
            first | rw [hsz] | (have hq : W0.heap.size = aZ := hsz; rw [hq]; clear hq) | skip
            have HLIT : Hid (OwnS b8R wZ W0.heap.size 5 All (.slice (some ⟨aZ, 0, none⟩) 2 2) [(), ()]) := hid (own_b8 (cs := [_, _]) hob hge (by simp) (by simp))
            have HSZ := hid hsz
            clear hA hsz hge hob
            have HXg4q_2 := hid (HXg4q_1.out.trans hEg4q2)
            have HWD := hid (HWD.out.ext hEg4q2)
            clear hEg4q2
            refine hK.out _ _ (keep2 ⟨c6, c1⟩ HXg4q_2.out) (fun hSg4q2 => ?_)
            clear hK K
            try simp only [Act.put, List.setIfInBounds_toArray, List.set_cons_zero, List.set_cons_succ]
            refine wpAnyH_ready (rs := [7]) (by kernel_rfl) (by simp) ?_
            refine (AllReadyH.consL rfl (fun K hK => ?g4qb7x11) AllReadyH.nil)
            case' g4qb7x11 =>
              refine step_appS rfl (.tmp 120) (.tmp 123) 121 rfl W0.heap.size 5 k0 _ 1 1 Tryz.underlying121 HKF.out HK0.out HK1.out HK2.out rfl b8R rfl (.slice (some ⟨aZ, 0, none⟩) 2 2) [(), ()] rfl HLIT.out A8 4 4 [(), (), (), ()] _ rfl HWD.out (fun d hd _ => ⟨trivial, fun e => by first | (have h1 := (HLT.out d e.symm).2; have h2 := hd.1; omega) | (have h1 := HSZ.out; have h2 : d < w8.heap.size := hd.2; have h3 : d = aZ := Option.some.inj e; omega)⟩) (by simp) (by simp) (by exact HXg4q_2.out.size) ?_
              intro A9 c9 w9 hown9 hg9
              have HXF := hid (HXg4q_2.out.grown hg9 (fun k hk => (HLIT.out.block _ hk).1))
              have HXg4q_3 := HXF
              clear hown9 hg9
              refine hK.out _ _ (keep2 ⟨c6, c1⟩ HXg4q_3.out) (fun hSg4q3 => ?_)
              clear hK K
              try simp only [Act.put, List.setIfInBounds_toArray, List.set_cons_zero, List.set_cons_succ]
              refine wpAnyH_takeL (i := 8) (v := ?g4qv8x12) rfl (by kernel_rfl) (by kernel_rfl) (by kernel_rfl) (fun _ _ _ h => h) (Or.inl ⟨by rfl, ?g4qy8x12⟩) (by assumption) ?g4qr8x12
              case g4qy8x12 => first | (intro w hSw; (try dsimp only at hSw); go_simp; done) | (intro w hSw; (try dsimp only at hSw); go_simp; with_reducible rfl)
              case' g4qr8x12 => try simp only [Act.put, List.setIfInBounds_toArray, List.set_cons_zero, List.set_cons_succ]
              refine wpAnyH_done (by kernel_rfl) ?_ _
              go_wp2
              go_ret
              rw [HP.out]
              exact ⟨HE.out.trans HXF.out, _, _, rfl⟩
      have n22 : (i.op == 22) = false := by simpa using z22
      have HP : Hid (r3Size i = plainSz i.op) := hid (by unfold r3Size; rw [if_neg (by rw [Ht.out]; simp), if_neg (by rw [Hu.out]; simp)]; simp [plainSz, H19.out, H20.out, H23.out, z22])
      clear z22
      have HPL := hid (fun W => plain_any W i)
      have e9 : inV i = .agg #[.int .u32 i.addr, .int .u32 i.imm, .int .i64 i.op, .int .i64 i.form, .int .i64 i.width, .int .i64 i.cc, .int .i64 i.a, .int .i64 i.b, .int .i64 i.size] := rfl
      rw [e9] at HPL
      clear e9
      go_wp2_with fail
      refine (HPL.out _).mono ?_
      rintro e w8 ⟨hx8, A8, c8', rfl⟩
      have HX8 := hid hx8
      clear hx8 c0 c1 c2 c3 c4 c5 c6 c7 c8
      go_wp2
      go_ret
      rw [HP.out]
      exact ⟨HE.out.trans HX8.out, _, _, rfl⟩
end Go.Proofs.YtnlmhnbogleijaaGreatDoor

namespace Go.Proofs.YtnlmhnbogleijaaGreatDoor
open Go.RowKit Go.Deco
set_option linter.unusedSimpArgs false
set_option linter.unusedVariables false
set_option maxRecDepth 100000

set_option maxHeartbeats 4000000 in
theorem rlen_any (w : World) (i : In) (hi : InOk i) : Calls Tryz.prog 84 #[inV i] w fun e w' => e = .returned (.int .i64 (isaLen i)) ∧ Ext w w' := by
  have hlen : isaLen i = if r3Val i = true then r3Size i else 0 := by rw [← r3Len_eq]; simp [r3Len, r3Val]
  obtain ⟨W0, hW0⟩ : ∃ W0, w.alloc (.cells #[.int .u32 i.addr, .int .u32 i.imm, .int .i64 i.op, .int .i64 i.form, .int .i64 i.width, .int .i64 i.cc, .int .i64 i.a, .int .i64 i.b, .int .i64 i.size] 77) = W0 := ⟨_, rfl⟩
  have hE : Ext w W0 := by rw [← hW0]; exact (Ext.refl w).alloc _
  have hB : Box9 W0 w.heap.size i := by rw [← hW0]; exact Box9.new w i _
  have HE := hid hE
  have HB := hid hB
  obtain ⟨c0, c1, c2, c3, c4, c5, c6, c7, c8⟩ := hB
  have e : inV i = .agg #[.int .u32 i.addr, .int .u32 i.imm, .int .i64 i.op, .int .i64 i.form, .int .i64 i.width, .int .i64 i.cc, .int .i64 i.a, .int .i64 i.b, .int .i64 i.size] := rfl
  rw [e]
  clear hE
  have HV := hid (fun W => rvalid_any W i hi)
  have HY := hid (fun W => rbytes_any W i hi)
  rw [e] at HV HY
  clear e
  obtain ⟨v, hv⟩ : ∃ v, r3Val i = v := ⟨_, rfl⟩
  obtain ⟨n, hn⟩ : ∃ n, r3Size i = n := ⟨_, rfl⟩
  obtain ⟨m, hm⟩ : ∃ m, isaLen i = m := ⟨_, rfl⟩
  rw [hv, hn, hm] at hlen
  rw [hv] at HV
  rw [hn] at HY
  rw [hm]
  have HL := hid hlen
  clear hlen hv hn hm
  go_enter Tryz.func84, Tryz.ntmps84
  go_wp2_with fail
  refine (HV.out _).mono ?_
  rintro e w1 ⟨rfl, hx1⟩
  have HX1 := hid (HE.out.trans hx1)
  have HB1 := hid (HB.out.ext hx1)
  clear hx1 c0 c1 c2 c3 c4 c5 c6 c7 c8
  cases v with
  | false =>
    have HM : Hid (m = 0) := HL
    go_wp2
    go_ret
    rw [HM.out]
    exact ⟨rfl, HX1.out⟩
  | true =>
    have HM : Hid (m = n) := HL
    obtain ⟨c0, c1, c2, c3, c4, c5, c6, c7, c8⟩ := HB1.out
    go_wp2_with fail
    refine (HY.out _).mono ?_
    rintro e w2 ⟨hx2, A, c, rfl⟩
    have HX2 := hid (HX1.out.trans hx2)
    clear hx2 c0 c1 c2 c3 c4 c5 c6 c7 c8
    go_wp2
    go_ret
    rw [HM.out]
    exact ⟨rfl, HX2.out⟩
set_option maxHeartbeats 4000000 in
theorem rnext_any (w : World) (i : In) (hi : InOk i) : Calls Tryz.prog 61 #[inV i] w fun e w' => e = .returned (.int .u32 (nextI i)) ∧ Ext w w' := by
  have hck := rlen_any
  obtain ⟨W0, hW0⟩ : ∃ W0, w.alloc (.cells #[.int .u32 i.addr, .int .u32 i.imm, .int .i64 i.op, .int .i64 i.form, .int .i64 i.width, .int .i64 i.cc, .int .i64 i.a, .int .i64 i.b, .int .i64 i.size] 77) = W0 := ⟨_, rfl⟩
  have hE : Ext w W0 := by rw [← hW0]; exact (Ext.refl w).alloc _
  have hB : Box9 W0 w.heap.size i := by rw [← hW0]; exact Box9.new w i _
  have HE := hid hE
  have HB := hid hB
  obtain ⟨c0, c1, c2, c3, c4, c5, c6, c7, c8⟩ := hB
  have e : inV i = .agg #[.int .u32 i.addr, .int .u32 i.imm, .int .i64 i.op, .int .i64 i.form, .int .i64 i.width, .int .i64 i.cc, .int .i64 i.a, .int .i64 i.b, .int .i64 i.size] := rfl
  rw [e]
  clear hE
  have HCK := hid (hck W0.drew i hi)
  rw [e] at HCK
  clear hck hi e
  obtain ⟨n, hn⟩ : ∃ n, isaLen i = n := ⟨_, rfl⟩
  have hn6 := isaLen_le i
  rw [hn] at HCK hn6
  obtain ⟨v, hv⟩ : ∃ v, nextI i = v := ⟨_, rfl⟩
  rw [hv]
  have e1 : IntKind.u32.wrap (n : Int) = (n : Int) := IntWalk.u32_in _ (by omega)
  have e2 : IntKind.u32.wrap ((i.addr : Int) + (n : Int)) = (v : Int) := by
    rw [← hv, nextI, hn, IntKind.wrap_u32]
    unfold w32d
    omega
  clear hn hv hn6
  go_enter Tryz.func61, Tryz.ntmps61
  go_wp2_with fail
  refine wp_region_held_drew (S := (fun w' => w'.cell? ⟨w.heap.size, 0, none⟩ = some (.int .u32 i.addr) ∧ w'.cell? ⟨w.heap.size, 1, none⟩ = some (.int .u32 i.imm) ∧ w'.cell? ⟨w.heap.size, 2, none⟩ = some (.int .i64 i.op) ∧ w'.cell? ⟨w.heap.size, 3, none⟩ = some (.int .i64 i.form) ∧ w'.cell? ⟨w.heap.size, 4, none⟩ = some (.int .i64 i.width) ∧ w'.cell? ⟨w.heap.size, 5, none⟩ = some (.int .i64 i.cc) ∧ w'.cell? ⟨w.heap.size, 6, none⟩ = some (.int .i64 i.a) ∧ w'.cell? ⟨w.heap.size, 7, none⟩ = some (.int .i64 i.b) ∧ w'.cell? ⟨w.heap.size, 8, none⟩ = some (.int .i64 i.size))) (by kernel_rfl) (HB.out.ext (Ext.refl W0).drew).conj (fun hSg5q0 => ?_)
  refine wpAnyH_takeL (i := 0) (v := ?g5qv0) rfl (by kernel_rfl) (by kernel_rfl) (by kernel_rfl) (fun _ _ _ h => h) (Or.inl ⟨by rfl, ?g5qy0⟩) (by assumption) ?g5qr0
  case g5qy0 => first | (intro w hSw; (try dsimp only at hSw); go_simp; done) | (intro w hSw; (try dsimp only at hSw); go_simp; with_reducible rfl)
  case' g5qr0 => try simp only [Act.put, List.setIfInBounds_toArray, List.set_cons_zero, List.set_cons_succ]
  refine wpAnyH_takeL (i := 1) (v := ?g5qv1) rfl (by kernel_rfl) (by kernel_rfl) (by kernel_rfl) (fun _ _ _ h => h) (Or.inl ⟨by rfl, ?g5qy1⟩) (by assumption) ?g5qr1
  case g5qy1 => first | (intro w hSw; (try dsimp only at hSw); go_simp; done) | (intro w hSw; (try dsimp only at hSw); go_simp; with_reducible rfl)
  case' g5qr1 => try simp only [Act.put, List.setIfInBounds_toArray, List.set_cons_zero, List.set_cons_succ]
  refine wpAnyH_takeL (i := 2) (v := ?g5qv2) rfl (by kernel_rfl) (by kernel_rfl) (by kernel_rfl) (fun _ _ _ h => h) (Or.inl ⟨by rfl, ?g5qy2⟩) (by assumption) ?g5qr2
  case g5qy2 => first | (intro w hSw; (try dsimp only at hSw); go_simp; done) | (intro w hSw; (try dsimp only at hSw); go_simp; with_reducible rfl)
  case' g5qr2 => try simp only [Act.put, List.setIfInBounds_toArray, List.set_cons_zero, List.set_cons_succ]
  refine wpAnyH_ready (rs := [3]) (by kernel_rfl) (by simp) ?_
  refine AllReadyH.consL rfl (fun K hK => ?_) AllReadyH.nil
  go_simp
  go_at_call 84
  refine (HCK.out).mono ?_
  rintro e w5 ⟨rfl, hx5⟩
  have HX5 := hid ((Ext.refl W0).drew.trans hx5)
  clear hx5
  refine hK.out _ _ (HB.out.ext HX5.out).conj (fun hSg5q1 => ?_)
  clear hK K
  try simp only [Act.put, List.setIfInBounds_toArray, List.set_cons_zero, List.set_cons_succ]
  refine wpAnyH_takeL (i := 4) (v := ?g5qv4) rfl (by kernel_rfl) (by kernel_rfl) (by kernel_rfl) (fun _ _ _ h => h) (Or.inl ⟨by rfl, ?g5qy4⟩) (by assumption) ?g5qr4
  case g5qy4 => first | (intro w hSw; (try dsimp only at hSw); go_simp; done) | (intro w hSw; (try dsimp only at hSw); go_simp; with_reducible rfl)
  case' g5qr4 => try simp only [Act.put, List.setIfInBounds_toArray, List.set_cons_zero, List.set_cons_succ]
  refine wpAnyH_takeL (i := 5) (v := ?g5qv5) rfl (by kernel_rfl) (by kernel_rfl) (by kernel_rfl) (fun _ _ _ h => h) (Or.inl ⟨by rfl, ?g5qy5⟩) (by assumption) ?g5qr5
  case g5qy5 => first | (intro w hSw; (try dsimp only at hSw); go_simp; done) | (intro w hSw; (try dsimp only at hSw); go_simp; with_reducible rfl)
  case' g5qr5 => try simp only [Act.put, List.setIfInBounds_toArray, List.set_cons_zero, List.set_cons_succ]
  refine wpAnyH_takeL (i := 6) (v := ?g5qv6) rfl (by kernel_rfl) (by kernel_rfl) (by kernel_rfl) (fun _ _ _ h => h) (Or.inl ⟨by rfl, ?g5qy6⟩) (by assumption) ?g5qr6
  case g5qy6 => first | (intro w hSw; (try dsimp only at hSw); go_simp; done) | (intro w hSw; (try dsimp only at hSw); go_simp; with_reducible rfl)
  case' g5qr6 => try simp only [Act.put, List.setIfInBounds_toArray, List.set_cons_zero, List.set_cons_succ]
  refine wpAnyH_done (by kernel_rfl) ?_ _
  go_wp2
  go_ret
  exact ⟨rfl, HE.out.trans HX5.out⟩
end Go.Proofs.YtnlmhnbogleijaaGreatDoor
