/- The reference's memory: bytesFrom, write. -/
import Derived.Test.YtjfdbfbdkjfgpaaR9B
import Derived.Test.YtjfdbfbdkjfgpaaSlc
namespace Go.Proofs.Ytjfdbfbdkjfgpaa
open Go.RowKit Go.Deco
set_option linter.unusedSimpArgs false
set_option linter.unusedVariables false

def bytesOf (f : Nat → Nat) (a n : Nat) : List Nat := (List.range n).map fun i => f ((a + i) % 4294967296)
theorem bytesOf_succ (f : Nat → Nat) (a n : Nat) : bytesOf f a (n + 1) = bytesOf f a n ++ [f ((a + n) % 4294967296)] := by simp [bytesOf, List.range_succ]
theorem bytesOf_length (f : Nat → Nat) (a n : Nat) : (bytesOf f a n).length = n := by simp [bytesOf]

set_option maxRecDepth 100000 in
set_option maxHeartbeats 1000000 in
theorem bytesFrom9_any (wo w : World) (ho : Ext wo w) (A : Option Addr) (n c : Nat) (l : List Sec) (hl : Sl secR wo All (.slice A n c) l) (h0 : secCheck l = 0) (CA : Option Addr) (cm cd : Nat) (cs : List (Nat × Nat)) (hc : Sl cellR wo All (.slice CA cm cd) cs)
    (hlt : ∀ a, preOf (regsOf l) (lookIn cs) a < 256) (a : Nat) (ha : a < 4294967296) (q : Nat) (hq : q ≤ 1000000) :
    Calls Try.prog 41 #[.agg #[.bool true, .slice A n c, .slice CA cm cd], .int .u32 a, .int .i64 q] w (BytesFrom w (bytesOf (preOf (regsOf l) (lookIn cs)) a q)) := by
  obtain ⟨i0, hi, hz0, hz1, hz2⟩ := info_parts info_u8
  have HI := hid hi; clear hi
  have HZ0 := hid hz0; clear hz0
  have HZ1 := hid hz1; clear hz1
  have HZ2 := hid hz2; clear hz2
  have HS := hid hl; clear hl
  have HC := hid hc; clear hc
  have HLT := hid hlt; clear hlt
  have HO := hid ho; clear ho
  have H0 := hid h0; clear h0
  obtain ⟨W0, hW0⟩ : ∃ W0, w.alloc (Obj.cells #[.bool true, .slice A n c, .slice CA cm cd] 45) = W0 := ⟨_, rfl⟩
  have hE : Ext w W0 := by rw [← hW0]; exact (Ext.refl w).alloc _
  have b0 : W0.cell? ⟨w.heap.size, 0, none⟩ = some (.bool true) := by rw [← hW0]; simp
  have b1 : W0.cell? ⟨w.heap.size, 1, none⟩ = some (.slice A n c) := by rw [← hW0]; simp
  have b2 : W0.cell? ⟨w.heap.size, 2, none⟩ = some (.slice CA cm cd) := by rw [← hW0]; simp
  have HE := hid hE; clear hE
  have HB := hid (And.intro b0 (And.intro b1 b2))
  obtain ⟨f, hf⟩ : ∃ f, preOf (regsOf l) (lookIn cs) = f := ⟨_, rfl⟩
  rw [hf]
  have HF := hid hf; clear hf
  go_enter Try.func41, Try.ntmps41
  go_wp2
  clear b0 b1 b2 hW0
  go_loopw [7, 8] (fun v i wr => ∃ (k : Nat) (A' : Option Addr) (c' : Nat), k ≤ q ∧ i = .int .i64 k ∧ v = .slice A' k c' ∧ Hid (Own u8R wr W0.heap.size 5 (.slice A' k c') (bytesOf f a k)) ∧ Hid (Ext W0 wr)) (fun _ i _ => q - (intOf i).toNat)
  case atStart => exact ⟨0, none, 0, by omega, rfl, rfl, hid OwnS.nil, hid (Ext.refl _)⟩
  case round =>
    obtain ⟨k, A', c', hk, rfl, rfl, hown, hx⟩ := hrel
    obtain ⟨b0, b1, b2⟩ := HB.out
    have b0 := hx.out.cell b0
    have b1 := hx.out.cell b1
    have b2 := hx.out.cell b2
    by_cases h1 : k < q
    · obtain ⟨x, hx1⟩ : ∃ x, (a + k) % 4294967296 = x := ⟨_, rfl⟩
      have hxi : ((a : Int) + (k : Int)) % 4294967296 = (x : Int) := by omega
      have hxl : x < 4294967296 := by omega
      have HX1 := hid hx1; clear hx1
      go_wp2_with fail
      refine (present9_any wo _ (HO.out.trans (HE.out.trans hx.out)) A n c l HS.out H0.out CA cm cd cs HC.out x hxl).mono ?_
      rintro e w1 ⟨rfl, hx2⟩
      have hfx : f x < 256 := by rw [← HF.out]; exact HLT.out x
      rw [HF.out]
      obtain ⟨y, hy⟩ : ∃ y, f x = y := ⟨_, rfl⟩
      rw [hy] at hfx
      rw [hy]
      have HY := hid hy; clear hy
      have HO1 := hid (hown.out.ext hx2)
      have HX2 := hid (hx.out.trans hx2)
      have HKL := hid (bytesOf_length f a k)
      have HOB := hid hown.out.block
      clear hx2
      go_wp2_with (first
        | (at_builtin; refine wpList_app1 rfl (.tmp 14) (.tmp 21) 49 rfl W0.heap.size 5 i0 _ 1 1 Try.underlying49 HI.out HZ0.out HZ1.out HZ2.out rfl u8R rfl (.slice A' k c') (bytesOf f a k) rfl HO1.out y rfl ⟨rfl, hfx⟩ (by have := HKL.out; omega) (by have := HKL.out; omega) (by exact HX2.out.size) ?_; intro A2 c2 w2 hown2 hg2; rw [HKL.out] at hown2; have HO2 := hid hown2; have HX3 := hid (((HX2.out).alloc _).grown hg2 (fun j hj => (HOB.out _ hj).1)); clear hown2 hg2; rw [HKL.out])
        | fail)
      go_roundw
      case rel => exact ⟨k + 1, A2, c2, by omega, by go_num, rfl, hid (by rw [bytesOf_succ, HX1.out, HY.out]; exact HO2.out), HX3⟩
      case measure => simp [intOf]; omega
    · obtain rfl : q = k := by omega
      go_wp2
      go_ret
      refine ⟨HE.out.trans hx.out, A', c', by rw [bytesOf_length]; rfl, ?_⟩
      rw [bytesOf_length]
      exact hown.out.num_sl (fun k hk => Nat.le_trans HE.out.size hk)
end Go.Proofs.Ytjfdbfbdkjfgpaa
