/- decompilerref07: checkOne, share, Check. -/
import Derived.Test.YtnlofhbimfcejaaRelA
import Derived.Test.YtnlofhbimfcejaaSyAt
import Derived.Test.YtnlofhbimfcejaaRelB
import Derived.Test.YtnlofhbimfcejaaR5C
import Derived.Test.YtnlofhbimfcejaaR6A
namespace Go.Proofs.Ytnlofhbimfcejaa
open Go.RowKit Go.Deco
set_option linter.unusedSimpArgs false
set_option linter.unusedVariables false

set_option maxRecDepth 100000 in
set_option maxHeartbeats 4000000 in
theorem one7_any (w : World) (en : Nat) (As Ay Ar : Option Addr) (ns cs ny cy nr cr : Nat) (secs : List Sec) (syms : List Sy) (hs : Sl secR w All (.slice As ns cs) secs) (hy : Sl symR w All (.slice Ay ny cy) syms) (r : Rl) :
    Calls Try.prog 34 #[.agg #[.int .u32 en, .slice As ns cs, .slice Ay ny cy, .slice Ar nr cr], .agg #[.int .i64 r.sec, .int .i64 r.off, .int .i64 r.kind, .string r.sym, .int .i32 r.add]] w (ErrIs w (relOne secs syms r)) := by
  obtain ⟨z, hz⟩ : ∃ z, relOne secs syms r = z := ⟨_, rfl⟩
  rw [hz]
  have HZ := hid hz
  clear hz
  obtain ⟨sec, off, kd, sym, add⟩ := r
  dsimp only at HZ ⊢
  have hln := hs.len
  have hsc := hs.cap
  obtain ⟨W0, hW0⟩ : ∃ W0, (w.alloc (.cells #[.int .u32 en, .slice As ns cs, .slice Ay ny cy, .slice Ar nr cr] 27)).alloc (.cells #[.int .i64 sec, .int .i64 off, .int .i64 kd, .string sym, .int .i32 add] 36) = W0 := ⟨_, rfl⟩
  have hE0 : Ext w W0 := by rw [← hW0]; exact ((Ext.refl w).alloc _).alloc _
  have o1 : W0.cell? ⟨w.heap.size, 1, none⟩ = some (.slice As ns cs) := by rw [← hW0]; simp [go_sem]
  have o2 : W0.cell? ⟨w.heap.size, 2, none⟩ = some (.slice Ay ny cy) := by rw [← hW0]; simp [go_sem]
  have r0 : W0.cell? ⟨w.heap.size + 1, 0, none⟩ = some (.int .i64 sec) := by rw [← hW0]; simp [go_sem]
  have r1 : W0.cell? ⟨w.heap.size + 1, 1, none⟩ = some (.int .i64 off) := by rw [← hW0]; simp [go_sem]
  have r2 : W0.cell? ⟨w.heap.size + 1, 2, none⟩ = some (.int .i64 kd) := by rw [← hW0]; simp [go_sem]
  have r3 : W0.cell? ⟨w.heap.size + 1, 3, none⟩ = some (.string sym) := by rw [← hW0]; simp [go_sem]
  have HE0 := hid hE0
  have HS := hid (hs.ext hE0)
  have HY := hid (hy.ext hE0)
  have HLN := hid hln
  clear hE0 hs hy hln
  by_cases h1 : kd = 1 ∨ kd = 2
  · by_cases h2 : sec < 0
    · obtain rfl : z = 2 := by rw [← HZ.out]; exact relOne_arg (.inr (.inl h2))
      rcases h1 with rfl | rfl
      all_goals
        go_enter Try.func34, Try.ntmps34
        go_wp2
        go_ret
        exact ⟨rfl, HE0.out⟩
    · obtain ⟨k, rfl⟩ : ∃ k : Nat, sec = k := ⟨sec.toNat, by omega⟩
      by_cases h3 : ns ≤ k
      · obtain rfl : z = 2 := by rw [← HZ.out]; exact relOne_arg (.inr (.inr (by have := HLN.out; show (secs.length : Int) ≤ k; omega)))
        clear h2
        rcases h1 with rfl | rfl
        all_goals
          go_enter Try.func34, Try.ntmps34
          go_wp2
          go_ret
          exact ⟨rfl, HE0.out⟩
      · obtain ⟨s, hk⟩ : ∃ s, secs[k]? = some s := ⟨_, List.getElem?_eq_getElem (by have := HLN.out; omega)⟩
        obtain ⟨b, o5, dA, dc, rfl, -, hdl, -, -, c0, c1, c2, c3, c4⟩ := HS.out.sec_at hk
        have HK := hid hk
        have i1 : (0 : Int) ≤ (k : Int) := by omega
        have i2 : (k : Int) < (ns : Int) := by omega
        clear h2 hk c0 c1 c3 c4
        rcases h1 with rfl | rfl
        · go_enter Try.func34, Try.ntmps34
          by_cases h3 : off < 0
          · obtain rfl : z = 7 := by rw [← HZ.out]; exact relOne_off (.inl rfl) rfl HK.out (.inl h3)
            have e3 : decide (off < 0) = true := decide_eq_true h3
            clear h3
            go_wp2_with fail
            clear hW0
            refine wp_region_held_drew (S := (fun w' => w'.cell? ⟨w.heap.size + 1, 1, none⟩ = some (.int .i64 off))) (by kernel_rfl) r1 (fun hSg1q0 => ?_)
            refine wpAnyH_takeL (i := 0) (v := ?g1qv0) rfl (by kernel_rfl) (by kernel_rfl) (by kernel_rfl) (fun _ _ _ h => h) (Or.inl ⟨by rfl, ?g1qy0⟩) (by assumption) ?g1qr0
            case g1qy0 => first | (intro w hSw; (try dsimp only at hSw); go_simp; done) | (intro w hSw; (try dsimp only at hSw); go_simp; with_reducible rfl)
            case' g1qr0 => try simp only [Act.put, List.setIfInBounds_toArray, List.set_cons_zero, List.set_cons_succ]
            refine wpAnyH_takeL (i := 1) (v := ?g1qv1) rfl (by kernel_rfl) (by kernel_rfl) (by kernel_rfl) (fun _ _ _ h => h) (Or.inl ⟨by rfl, ?g1qy1⟩) (by assumption) ?g1qr1
            case g1qy1 => first | (intro w hSw; (try dsimp only at hSw); go_simp; done) | (intro w hSw; (try dsimp only at hSw); go_simp; with_reducible rfl)
            case' g1qr1 => try simp only [Act.put, List.setIfInBounds_toArray, List.set_cons_zero, List.set_cons_succ]
            refine wpAnyH_takeL (i := 2) (v := ?g1qv2) rfl (by kernel_rfl) (by kernel_rfl) (by kernel_rfl) (fun _ _ _ h => h) (Or.inl ⟨by rfl, ?g1qy2⟩) (by assumption) ?g1qr2
            case g1qy2 => first | (intro w hSw; (try dsimp only at hSw); go_simp; done) | (intro w hSw; (try dsimp only at hSw); go_simp; with_reducible rfl)
            case' g1qr2 => try simp only [Act.put, List.setIfInBounds_toArray, List.set_cons_zero, List.set_cons_succ]
            refine wpAnyH_takeL (i := 3) (v := ?g1qv3) rfl (by kernel_rfl) (by kernel_rfl) (by kernel_rfl) (fun _ _ _ h => h) (Or.inl ⟨by rfl, ?g1qy3⟩) (by assumption) ?g1qr3
            case g1qy3 => first | (intro w hSw; (try dsimp only at hSw); go_simp; done) | (intro w hSw; (try dsimp only at hSw); go_simp; with_reducible rfl)
            case' g1qr3 => try simp only [Act.put, List.setIfInBounds_toArray, List.set_cons_zero, List.set_cons_succ]
            refine wpAnyH_takeL (i := 4) (v := undef) rfl (by kernel_rfl) (by kernel_rfl) (by kernel_rfl) (fun _ _ _ h => h) (Or.inr ⟨by rfl, rfl⟩) (by assumption) ?g1qr4
            case' g1qr4 => try simp only [Act.put, List.setIfInBounds_toArray, List.set_cons_zero, List.set_cons_succ]
            refine wpAnyH_takeL (i := 5) (v := undef) rfl (by kernel_rfl) (by kernel_rfl) (by kernel_rfl) (fun _ _ _ h => h) (Or.inr ⟨by rfl, rfl⟩) (by assumption) ?g1qr5
            case' g1qr5 => try simp only [Act.put, List.setIfInBounds_toArray, List.set_cons_zero, List.set_cons_succ]
            refine wpAnyH_takeL (i := 6) (v := undef) rfl (by kernel_rfl) (by kernel_rfl) (by kernel_rfl) (fun _ _ _ h => h) (Or.inr ⟨by rfl, rfl⟩) (by assumption) ?g1qr6
            case' g1qr6 => try simp only [Act.put, List.setIfInBounds_toArray, List.set_cons_zero, List.set_cons_succ]
            refine wpAnyH_takeL (i := 7) (v := undef) rfl (by kernel_rfl) (by kernel_rfl) (by kernel_rfl) (fun _ _ _ h => h) (Or.inr ⟨by rfl, rfl⟩) (by assumption) ?g1qr7
            case' g1qr7 => try simp only [Act.put, List.setIfInBounds_toArray, List.set_cons_zero, List.set_cons_succ]
            refine wpAnyH_takeL (i := 8) (v := undef) rfl (by kernel_rfl) (by kernel_rfl) (by kernel_rfl) (fun _ _ _ h => h) (Or.inr ⟨by rfl, rfl⟩) (by assumption) ?g1qr8
            case' g1qr8 => try simp only [Act.put, List.setIfInBounds_toArray, List.set_cons_zero, List.set_cons_succ]
            refine wpAnyH_takeL (i := 9) (v := undef) rfl (by kernel_rfl) (by kernel_rfl) (by kernel_rfl) (fun _ _ _ h => h) (Or.inr ⟨by rfl, rfl⟩) (by assumption) ?g1qr9
            case' g1qr9 => try simp only [Act.put, List.setIfInBounds_toArray, List.set_cons_zero, List.set_cons_succ]
            refine wpAnyH_takeL (i := 10) (v := undef) rfl (by kernel_rfl) (by kernel_rfl) (by kernel_rfl) (fun _ _ _ h => h) (Or.inr ⟨by rfl, rfl⟩) (by assumption) ?g1qr10
            case' g1qr10 => try simp only [Act.put, List.setIfInBounds_toArray, List.set_cons_zero, List.set_cons_succ]
            refine wpAnyH_takeL (i := 11) (v := undef) rfl (by kernel_rfl) (by kernel_rfl) (by kernel_rfl) (fun _ _ _ h => h) (Or.inr ⟨by rfl, rfl⟩) (by assumption) ?g1qr11
            case' g1qr11 => try simp only [Act.put, List.setIfInBounds_toArray, List.set_cons_zero, List.set_cons_succ]
            refine wpAnyH_takeL (i := 12) (v := undef) rfl (by kernel_rfl) (by kernel_rfl) (by kernel_rfl) (fun _ _ _ h => h) (Or.inr ⟨by rfl, rfl⟩) (by assumption) ?g1qr12
            case' g1qr12 => try simp only [Act.put, List.setIfInBounds_toArray, List.set_cons_zero, List.set_cons_succ]
            refine wpAnyH_takeL (i := 13) (v := undef) rfl (by kernel_rfl) (by kernel_rfl) (by kernel_rfl) (fun _ _ _ h => h) (Or.inr ⟨by rfl, rfl⟩) (by assumption) ?g1qr13
            case' g1qr13 => try simp only [Act.put, List.setIfInBounds_toArray, List.set_cons_zero, List.set_cons_succ]
            refine wpAnyH_takeL (i := 14) (v := undef) rfl (by kernel_rfl) (by kernel_rfl) (by kernel_rfl) (fun _ _ _ h => h) (Or.inr ⟨by rfl, rfl⟩) (by assumption) ?g1qr14
            case' g1qr14 => try simp only [Act.put, List.setIfInBounds_toArray, List.set_cons_zero, List.set_cons_succ]
            refine wpAnyH_takeL (i := 15) (v := undef) rfl (by kernel_rfl) (by kernel_rfl) (by kernel_rfl) (fun _ _ _ h => h) (Or.inr ⟨by rfl, rfl⟩) (by assumption) ?g1qr15
            case' g1qr15 => try simp only [Act.put, List.setIfInBounds_toArray, List.set_cons_zero, List.set_cons_succ]
            refine wpAnyH_takeL (i := 16) (v := ?g1qv16) rfl (by kernel_rfl) (by kernel_rfl) (by kernel_rfl) (fun _ _ _ h => h) (Or.inl ⟨by rfl, ?g1qy16⟩) (by assumption) ?g1qr16
            case g1qy16 => first | (intro w hSw; (try dsimp only at hSw); go_simp; done) | (intro w hSw; (try dsimp only at hSw); go_simp; with_reducible rfl)
            case' g1qr16 => try simp only [Act.put, List.setIfInBounds_toArray, List.set_cons_zero, List.set_cons_succ]
            refine wpAnyH_done (by kernel_rfl) ?_ _
            go_wp2
            go_ret
            exact ⟨rfl, HE0.out.drew⟩
          · have e3 : decide (off < 0) = false := decide_eq_false h3
            have hsub : IntKind.i64.wrap ((s.data.length : Int) - 4) = (s.data.length : Int) - 4 := IntWalk.i64_in _ (by omega)
            by_cases h4 : (s.data.length : Int) - 4 < off
            · obtain rfl : z = 7 := by rw [← HZ.out]; exact relOne_off (.inl rfl) rfl HK.out (.inr h4)
              have e4 : decide ((s.data.length : Int) - 4 < off) = true := decide_eq_true h4
              clear h3 h4 hdl
              go_wp2_with fail
              clear hW0
              refine wp_region_held_drew (S := (fun w' => w'.cell? ⟨w.heap.size + 1, 1, none⟩ = some (.int .i64 off) ∧ w'.cell? ⟨w.heap.size + 1, 0, none⟩ = some (.int .i64 (k : Int)) ∧ w'.cell? ⟨w.heap.size, 1, none⟩ = some (.slice (some ⟨b, o5, none⟩) ns cs) ∧ w'.cell? ⟨b, o5 + k * 5 + 2, none⟩ = some (.slice dA s.data.length dc))) (by kernel_rfl) ⟨r1, r0, o1, c2⟩ (fun hSg2q0 => ?_)
              refine wpAnyH_takeL (i := 0) (v := ?g2qv0) rfl (by kernel_rfl) (by kernel_rfl) (by kernel_rfl) (fun _ _ _ h => h) (Or.inl ⟨by rfl, ?g2qy0⟩) (by assumption) ?g2qr0
              case g2qy0 => first | (intro w hSw; (try dsimp only at hSw); go_simp; done) | (intro w hSw; (try dsimp only at hSw); go_simp; with_reducible rfl)
              case' g2qr0 => try simp only [Act.put, List.setIfInBounds_toArray, List.set_cons_zero, List.set_cons_succ]
              refine wpAnyH_takeL (i := 1) (v := ?g2qv1) rfl (by kernel_rfl) (by kernel_rfl) (by kernel_rfl) (fun _ _ _ h => h) (Or.inl ⟨by rfl, ?g2qy1⟩) (by assumption) ?g2qr1
              case g2qy1 => first | (intro w hSw; (try dsimp only at hSw); go_simp; done) | (intro w hSw; (try dsimp only at hSw); go_simp; with_reducible rfl)
              case' g2qr1 => try simp only [Act.put, List.setIfInBounds_toArray, List.set_cons_zero, List.set_cons_succ]
              refine wpAnyH_takeL (i := 2) (v := ?g2qv2) rfl (by kernel_rfl) (by kernel_rfl) (by kernel_rfl) (fun _ _ _ h => h) (Or.inl ⟨by rfl, ?g2qy2⟩) (by assumption) ?g2qr2
              case g2qy2 => first | (intro w hSw; (try dsimp only at hSw); go_simp; done) | (intro w hSw; (try dsimp only at hSw); go_simp; with_reducible rfl)
              case' g2qr2 => try simp only [Act.put, List.setIfInBounds_toArray, List.set_cons_zero, List.set_cons_succ]
              refine wpAnyH_takeL (i := 3) (v := ?g2qv3) rfl (by kernel_rfl) (by kernel_rfl) (by kernel_rfl) (fun _ _ _ h => h) (Or.inl ⟨by rfl, ?g2qy3⟩) (by assumption) ?g2qr3
              case g2qy3 => first | (intro w hSw; (try dsimp only at hSw); go_simp; done) | (intro w hSw; (try dsimp only at hSw); go_simp; with_reducible rfl)
              case' g2qr3 => try simp only [Act.put, List.setIfInBounds_toArray, List.set_cons_zero, List.set_cons_succ]
              refine wpAnyH_takeL (i := 4) (v := ?g2qv4) rfl (by kernel_rfl) (by kernel_rfl) (by kernel_rfl) (fun _ _ _ h => h) (Or.inl ⟨by rfl, ?g2qy4⟩) (by assumption) ?g2qr4
              case g2qy4 => first | (intro w hSw; (try dsimp only at hSw); go_simp; done) | (intro w hSw; (try dsimp only at hSw); go_simp; with_reducible rfl)
              case' g2qr4 => try simp only [Act.put, List.setIfInBounds_toArray, List.set_cons_zero, List.set_cons_succ]
              refine wpAnyH_takeL (i := 5) (v := ?g2qv5) rfl (by kernel_rfl) (by kernel_rfl) (by kernel_rfl) (fun _ _ _ h => h) (Or.inl ⟨by rfl, ?g2qy5⟩) (by assumption) ?g2qr5
              case g2qy5 => first | (intro w hSw; (try dsimp only at hSw); go_simp; done) | (intro w hSw; (try dsimp only at hSw); go_simp; with_reducible rfl)
              case' g2qr5 => try simp only [Act.put, List.setIfInBounds_toArray, List.set_cons_zero, List.set_cons_succ]
              refine wpAnyH_takeL (i := 6) (v := ?g2qv6) rfl (by kernel_rfl) (by kernel_rfl) (by kernel_rfl) (fun _ _ _ h => h) (Or.inl ⟨by rfl, ?g2qy6⟩) (by assumption) ?g2qr6
              case g2qy6 => first | (intro w hSw; (try dsimp only at hSw); go_simp; done) | (intro w hSw; (try dsimp only at hSw); go_simp; with_reducible rfl)
              case' g2qr6 => try simp only [Act.put, List.setIfInBounds_toArray, List.set_cons_zero, List.set_cons_succ]
              refine wpAnyH_takeL (i := 7) (v := ?g2qv7) rfl (by kernel_rfl) (by kernel_rfl) (by kernel_rfl) (fun _ _ _ h => h) (Or.inl ⟨by rfl, ?g2qy7⟩) (by assumption) ?g2qr7
              case g2qy7 => first | (intro w hSw; (try dsimp only at hSw); go_simp; done) | (intro w hSw; (try dsimp only at hSw); go_simp; with_reducible rfl)
              case' g2qr7 => try simp only [Act.put, List.setIfInBounds_toArray, List.set_cons_zero, List.set_cons_succ]
              refine wpAnyH_takeL (i := 8) (v := ?g2qv8) rfl (by kernel_rfl) (by kernel_rfl) (by kernel_rfl) (fun _ _ _ h => h) (Or.inl ⟨by rfl, ?g2qy8⟩) (by assumption) ?g2qr8
              case g2qy8 => first | (intro w hSw; (try dsimp only at hSw); go_simp; done) | (intro w hSw; (try dsimp only at hSw); go_simp; with_reducible rfl)
              case' g2qr8 => try simp only [Act.put, List.setIfInBounds_toArray, List.set_cons_zero, List.set_cons_succ]
              refine wpAnyH_takeL (i := 9) (v := ?g2qv9) rfl (by kernel_rfl) (by kernel_rfl) (by kernel_rfl) (fun _ _ _ h => h) (Or.inl ⟨by rfl, ?g2qy9⟩) (by assumption) ?g2qr9
              case g2qy9 => first | (intro w hSw; (try dsimp only at hSw); go_simp; done) | (intro w hSw; (try dsimp only at hSw); go_simp; with_reducible rfl)
              case' g2qr9 => try simp only [Act.put, List.setIfInBounds_toArray, List.set_cons_zero, List.set_cons_succ]
              refine wpAnyH_takeL (i := 10) (v := ?g2qv10) rfl (by kernel_rfl) (by kernel_rfl) (by kernel_rfl) (fun _ _ _ h => h) (Or.inl ⟨by rfl, ?g2qy10⟩) (by assumption) ?g2qr10
              case g2qy10 => first | (intro w hSw; (try dsimp only at hSw); go_simp; done) | (intro w hSw; (try dsimp only at hSw); go_simp; with_reducible rfl)
              case' g2qr10 => try simp only [Act.put, List.setIfInBounds_toArray, List.set_cons_zero, List.set_cons_succ]
              refine wpAnyH_takeL (i := 11) (v := ?g2qv11) rfl (by kernel_rfl) (by kernel_rfl) (by kernel_rfl) (fun _ _ _ h => h) (Or.inl ⟨by rfl, ?g2qy11⟩) (by assumption) ?g2qr11
              case g2qy11 => first | (intro w hSw; (try dsimp only at hSw); go_simp; done) | (intro w hSw; (try dsimp only at hSw); go_simp; with_reducible rfl)
              case' g2qr11 => try simp only [Act.put, List.setIfInBounds_toArray, List.set_cons_zero, List.set_cons_succ]
              refine wpAnyH_takeL (i := 12) (v := ?g2qv12) rfl (by kernel_rfl) (by kernel_rfl) (by kernel_rfl) (fun _ _ _ h => h) (Or.inl ⟨by rfl, ?g2qy12⟩) (by assumption) ?g2qr12
              case g2qy12 => first | (intro w hSw; (try dsimp only at hSw); go_simp; done) | (intro w hSw; (try dsimp only at hSw); go_simp; with_reducible rfl)
              case' g2qr12 => try simp only [Act.put, List.setIfInBounds_toArray, List.set_cons_zero, List.set_cons_succ]
              refine wpAnyH_takeL (i := 13) (v := ?g2qv13) rfl (by kernel_rfl) (by kernel_rfl) (by kernel_rfl) (fun _ _ _ h => h) (Or.inl ⟨by rfl, ?g2qy13⟩) (by assumption) ?g2qr13
              case g2qy13 => first | (intro w hSw; (try dsimp only at hSw); go_simp; done) | (intro w hSw; (try dsimp only at hSw); go_simp; with_reducible rfl)
              case' g2qr13 => try simp only [Act.put, List.setIfInBounds_toArray, List.set_cons_zero, List.set_cons_succ]
              refine wpAnyH_takeL (i := 14) (v := ?g2qv14) rfl (by kernel_rfl) (by kernel_rfl) (by kernel_rfl) (fun _ _ _ h => h) (Or.inl ⟨by rfl, ?g2qy14⟩) (by assumption) ?g2qr14
              case g2qy14 => first | (intro w hSw; (try dsimp only at hSw); go_simp; done) | (intro w hSw; (try dsimp only at hSw); go_simp; with_reducible rfl)
              case' g2qr14 => try simp only [Act.put, List.setIfInBounds_toArray, List.set_cons_zero, List.set_cons_succ]
              refine wpAnyH_takeL (i := 15) (v := ?g2qv15) rfl (by kernel_rfl) (by kernel_rfl) (by kernel_rfl) (fun _ _ _ h => h) (Or.inl ⟨by rfl, ?g2qy15⟩) (by assumption) ?g2qr15
              case g2qy15 => first | (intro w hSw; (try dsimp only at hSw); go_simp; done) | (intro w hSw; (try dsimp only at hSw); go_simp; with_reducible rfl)
              case' g2qr15 => try simp only [Act.put, List.setIfInBounds_toArray, List.set_cons_zero, List.set_cons_succ]
              refine wpAnyH_takeL (i := 16) (v := ?g2qv16) rfl (by kernel_rfl) (by kernel_rfl) (by kernel_rfl) (fun _ _ _ h => h) (Or.inl ⟨by rfl, ?g2qy16⟩) (by assumption) ?g2qr16
              case g2qy16 => first | (intro w hSw; (try dsimp only at hSw); go_simp; done) | (intro w hSw; (try dsimp only at hSw); go_simp; with_reducible rfl)
              case' g2qr16 => try simp only [Act.put, List.setIfInBounds_toArray, List.set_cons_zero, List.set_cons_succ]
              refine wpAnyH_done (by kernel_rfl) ?_ _
              go_wp2
              go_ret
              exact ⟨rfl, HE0.out.drew⟩
            · have e4 : decide ((s.data.length : Int) - 4 < off) = false := decide_eq_false h4
              have HFN : Hid (z = if (findSy syms sym.data.toList).isSome then 0 else 17) := hid (by rw [← HZ.out]; exact relOne_fin (.inl rfl) rfl HK.out (fun h => h.elim h3 h4) rfl)
              clear h3 h4 hdl
              go_wp2_with fail
              clear hW0
              refine wp_region_held_drew (S := (fun w' => w'.cell? ⟨w.heap.size + 1, 1, none⟩ = some (.int .i64 off) ∧ w'.cell? ⟨w.heap.size + 1, 0, none⟩ = some (.int .i64 (k : Int)) ∧ w'.cell? ⟨w.heap.size, 1, none⟩ = some (.slice (some ⟨b, o5, none⟩) ns cs) ∧ w'.cell? ⟨b, o5 + k * 5 + 2, none⟩ = some (.slice dA s.data.length dc))) (by kernel_rfl) ⟨r1, r0, o1, c2⟩ (fun hSg3q0 => ?_)
              refine wpAnyH_takeL (i := 0) (v := ?g3qv0) rfl (by kernel_rfl) (by kernel_rfl) (by kernel_rfl) (fun _ _ _ h => h) (Or.inl ⟨by rfl, ?g3qy0⟩) (by assumption) ?g3qr0
              case g3qy0 => first | (intro w hSw; (try dsimp only at hSw); go_simp; done) | (intro w hSw; (try dsimp only at hSw); go_simp; with_reducible rfl)
              case' g3qr0 => try simp only [Act.put, List.setIfInBounds_toArray, List.set_cons_zero, List.set_cons_succ]
              refine wpAnyH_takeL (i := 1) (v := ?g3qv1) rfl (by kernel_rfl) (by kernel_rfl) (by kernel_rfl) (fun _ _ _ h => h) (Or.inl ⟨by rfl, ?g3qy1⟩) (by assumption) ?g3qr1
              case g3qy1 => first | (intro w hSw; (try dsimp only at hSw); go_simp; done) | (intro w hSw; (try dsimp only at hSw); go_simp; with_reducible rfl)
              case' g3qr1 => try simp only [Act.put, List.setIfInBounds_toArray, List.set_cons_zero, List.set_cons_succ]
              refine wpAnyH_takeL (i := 2) (v := ?g3qv2) rfl (by kernel_rfl) (by kernel_rfl) (by kernel_rfl) (fun _ _ _ h => h) (Or.inl ⟨by rfl, ?g3qy2⟩) (by assumption) ?g3qr2
              case g3qy2 => first | (intro w hSw; (try dsimp only at hSw); go_simp; done) | (intro w hSw; (try dsimp only at hSw); go_simp; with_reducible rfl)
              case' g3qr2 => try simp only [Act.put, List.setIfInBounds_toArray, List.set_cons_zero, List.set_cons_succ]
              refine wpAnyH_takeL (i := 3) (v := ?g3qv3) rfl (by kernel_rfl) (by kernel_rfl) (by kernel_rfl) (fun _ _ _ h => h) (Or.inl ⟨by rfl, ?g3qy3⟩) (by assumption) ?g3qr3
              case g3qy3 => first | (intro w hSw; (try dsimp only at hSw); go_simp; done) | (intro w hSw; (try dsimp only at hSw); go_simp; with_reducible rfl)
              case' g3qr3 => try simp only [Act.put, List.setIfInBounds_toArray, List.set_cons_zero, List.set_cons_succ]
              refine wpAnyH_takeL (i := 4) (v := ?g3qv4) rfl (by kernel_rfl) (by kernel_rfl) (by kernel_rfl) (fun _ _ _ h => h) (Or.inl ⟨by rfl, ?g3qy4⟩) (by assumption) ?g3qr4
              case g3qy4 => first | (intro w hSw; (try dsimp only at hSw); go_simp; done) | (intro w hSw; (try dsimp only at hSw); go_simp; with_reducible rfl)
              case' g3qr4 => try simp only [Act.put, List.setIfInBounds_toArray, List.set_cons_zero, List.set_cons_succ]
              refine wpAnyH_takeL (i := 5) (v := ?g3qv5) rfl (by kernel_rfl) (by kernel_rfl) (by kernel_rfl) (fun _ _ _ h => h) (Or.inl ⟨by rfl, ?g3qy5⟩) (by assumption) ?g3qr5
              case g3qy5 => first | (intro w hSw; (try dsimp only at hSw); go_simp; done) | (intro w hSw; (try dsimp only at hSw); go_simp; with_reducible rfl)
              case' g3qr5 => try simp only [Act.put, List.setIfInBounds_toArray, List.set_cons_zero, List.set_cons_succ]
              refine wpAnyH_takeL (i := 6) (v := ?g3qv6) rfl (by kernel_rfl) (by kernel_rfl) (by kernel_rfl) (fun _ _ _ h => h) (Or.inl ⟨by rfl, ?g3qy6⟩) (by assumption) ?g3qr6
              case g3qy6 => first | (intro w hSw; (try dsimp only at hSw); go_simp; done) | (intro w hSw; (try dsimp only at hSw); go_simp; with_reducible rfl)
              case' g3qr6 => try simp only [Act.put, List.setIfInBounds_toArray, List.set_cons_zero, List.set_cons_succ]
              refine wpAnyH_takeL (i := 7) (v := ?g3qv7) rfl (by kernel_rfl) (by kernel_rfl) (by kernel_rfl) (fun _ _ _ h => h) (Or.inl ⟨by rfl, ?g3qy7⟩) (by assumption) ?g3qr7
              case g3qy7 => first | (intro w hSw; (try dsimp only at hSw); go_simp; done) | (intro w hSw; (try dsimp only at hSw); go_simp; with_reducible rfl)
              case' g3qr7 => try simp only [Act.put, List.setIfInBounds_toArray, List.set_cons_zero, List.set_cons_succ]
              refine wpAnyH_takeL (i := 8) (v := ?g3qv8) rfl (by kernel_rfl) (by kernel_rfl) (by kernel_rfl) (fun _ _ _ h => h) (Or.inl ⟨by rfl, ?g3qy8⟩) (by assumption) ?g3qr8
              case g3qy8 => first | (intro w hSw; (try dsimp only at hSw); go_simp; done) | (intro w hSw; (try dsimp only at hSw); go_simp; with_reducible rfl)
              case' g3qr8 => try simp only [Act.put, List.setIfInBounds_toArray, List.set_cons_zero, List.set_cons_succ]
              refine wpAnyH_takeL (i := 9) (v := ?g3qv9) rfl (by kernel_rfl) (by kernel_rfl) (by kernel_rfl) (fun _ _ _ h => h) (Or.inl ⟨by rfl, ?g3qy9⟩) (by assumption) ?g3qr9
              case g3qy9 => first | (intro w hSw; (try dsimp only at hSw); go_simp; done) | (intro w hSw; (try dsimp only at hSw); go_simp; with_reducible rfl)
              case' g3qr9 => try simp only [Act.put, List.setIfInBounds_toArray, List.set_cons_zero, List.set_cons_succ]
              refine wpAnyH_takeL (i := 10) (v := ?g3qv10) rfl (by kernel_rfl) (by kernel_rfl) (by kernel_rfl) (fun _ _ _ h => h) (Or.inl ⟨by rfl, ?g3qy10⟩) (by assumption) ?g3qr10
              case g3qy10 => first | (intro w hSw; (try dsimp only at hSw); go_simp; done) | (intro w hSw; (try dsimp only at hSw); go_simp; with_reducible rfl)
              case' g3qr10 => try simp only [Act.put, List.setIfInBounds_toArray, List.set_cons_zero, List.set_cons_succ]
              refine wpAnyH_takeL (i := 11) (v := ?g3qv11) rfl (by kernel_rfl) (by kernel_rfl) (by kernel_rfl) (fun _ _ _ h => h) (Or.inl ⟨by rfl, ?g3qy11⟩) (by assumption) ?g3qr11
              case g3qy11 => first | (intro w hSw; (try dsimp only at hSw); go_simp; done) | (intro w hSw; (try dsimp only at hSw); go_simp; with_reducible rfl)
              case' g3qr11 => try simp only [Act.put, List.setIfInBounds_toArray, List.set_cons_zero, List.set_cons_succ]
              refine wpAnyH_takeL (i := 12) (v := ?g3qv12) rfl (by kernel_rfl) (by kernel_rfl) (by kernel_rfl) (fun _ _ _ h => h) (Or.inl ⟨by rfl, ?g3qy12⟩) (by assumption) ?g3qr12
              case g3qy12 => first | (intro w hSw; (try dsimp only at hSw); go_simp; done) | (intro w hSw; (try dsimp only at hSw); go_simp; with_reducible rfl)
              case' g3qr12 => try simp only [Act.put, List.setIfInBounds_toArray, List.set_cons_zero, List.set_cons_succ]
              refine wpAnyH_takeL (i := 13) (v := ?g3qv13) rfl (by kernel_rfl) (by kernel_rfl) (by kernel_rfl) (fun _ _ _ h => h) (Or.inl ⟨by rfl, ?g3qy13⟩) (by assumption) ?g3qr13
              case g3qy13 => first | (intro w hSw; (try dsimp only at hSw); go_simp; done) | (intro w hSw; (try dsimp only at hSw); go_simp; with_reducible rfl)
              case' g3qr13 => try simp only [Act.put, List.setIfInBounds_toArray, List.set_cons_zero, List.set_cons_succ]
              refine wpAnyH_takeL (i := 14) (v := ?g3qv14) rfl (by kernel_rfl) (by kernel_rfl) (by kernel_rfl) (fun _ _ _ h => h) (Or.inl ⟨by rfl, ?g3qy14⟩) (by assumption) ?g3qr14
              case g3qy14 => first | (intro w hSw; (try dsimp only at hSw); go_simp; done) | (intro w hSw; (try dsimp only at hSw); go_simp; with_reducible rfl)
              case' g3qr14 => try simp only [Act.put, List.setIfInBounds_toArray, List.set_cons_zero, List.set_cons_succ]
              refine wpAnyH_takeL (i := 15) (v := ?g3qv15) rfl (by kernel_rfl) (by kernel_rfl) (by kernel_rfl) (fun _ _ _ h => h) (Or.inl ⟨by rfl, ?g3qy15⟩) (by assumption) ?g3qr15
              case g3qy15 => first | (intro w hSw; (try dsimp only at hSw); go_simp; done) | (intro w hSw; (try dsimp only at hSw); go_simp; with_reducible rfl)
              case' g3qr15 => try simp only [Act.put, List.setIfInBounds_toArray, List.set_cons_zero, List.set_cons_succ]
              refine wpAnyH_takeL (i := 16) (v := ?g3qv16) rfl (by kernel_rfl) (by kernel_rfl) (by kernel_rfl) (fun _ _ _ h => h) (Or.inl ⟨by rfl, ?g3qy16⟩) (by assumption) ?g3qr16
              case g3qy16 => first | (intro w hSw; (try dsimp only at hSw); go_simp; done) | (intro w hSw; (try dsimp only at hSw); go_simp; with_reducible rfl)
              case' g3qr16 => try simp only [Act.put, List.setIfInBounds_toArray, List.set_cons_zero, List.set_cons_succ]
              refine wpAnyH_done (by kernel_rfl) ?_ _
              clear hsub
              go_wp2_with fail
              refine (find6_any _ Ay ny cy syms (HY.out.ext (Ext.refl _).drew) sym).mono ?_
              rintro e w1 ⟨hx1, rfl⟩
              have HX1 := hid (HE0.out.trans hx1.drew_left)
              clear hx1
              obtain ⟨q, hq⟩ : ∃ q, findSy syms sym.data.toList = q := ⟨_, rfl⟩
              rw [hq] at HFN ⊢
              obtain ⟨y, hy⟩ : ∃ y, q.getD Sy.zero = y := ⟨_, rfl⟩
              rw [hy]
              clear hq hy
              simp only [syVal]
              cases q with
              | none =>
                obtain rfl : z = 17 := HFN.out
                simp only [Option.isSome_none]
                go_wp2
                go_ret
                first | exact ⟨rfl, HX1.out.alloc _⟩ | exact ⟨rfl, HX1.out⟩
              | some q =>
                obtain rfl : z = 0 := HFN.out
                simp only [Option.isSome_some]
                go_wp2
                go_ret
                first | exact ⟨rfl, HX1.out.alloc _⟩ | exact ⟨rfl, HX1.out⟩
        · go_enter Try.func34, Try.ntmps34
          by_cases h3 : off < 0
          · obtain rfl : z = 7 := by rw [← HZ.out]; exact relOne_off (.inr rfl) rfl HK.out (.inl h3)
            have e3 : decide (off < 0) = true := decide_eq_true h3
            clear h3
            go_wp2_with fail
            clear hW0
            refine wp_region_held_drew (S := (fun w' => w'.cell? ⟨w.heap.size + 1, 1, none⟩ = some (.int .i64 off))) (by kernel_rfl) r1 (fun hSg4q0 => ?_)
            refine wpAnyH_takeL (i := 0) (v := ?g4qv0) rfl (by kernel_rfl) (by kernel_rfl) (by kernel_rfl) (fun _ _ _ h => h) (Or.inl ⟨by rfl, ?g4qy0⟩) (by assumption) ?g4qr0
            case g4qy0 => first | (intro w hSw; (try dsimp only at hSw); go_simp; done) | (intro w hSw; (try dsimp only at hSw); go_simp; with_reducible rfl)
            case' g4qr0 => try simp only [Act.put, List.setIfInBounds_toArray, List.set_cons_zero, List.set_cons_succ]
            refine wpAnyH_takeL (i := 1) (v := ?g4qv1) rfl (by kernel_rfl) (by kernel_rfl) (by kernel_rfl) (fun _ _ _ h => h) (Or.inl ⟨by rfl, ?g4qy1⟩) (by assumption) ?g4qr1
            case g4qy1 => first | (intro w hSw; (try dsimp only at hSw); go_simp; done) | (intro w hSw; (try dsimp only at hSw); go_simp; with_reducible rfl)
            case' g4qr1 => try simp only [Act.put, List.setIfInBounds_toArray, List.set_cons_zero, List.set_cons_succ]
            refine wpAnyH_takeL (i := 2) (v := ?g4qv2) rfl (by kernel_rfl) (by kernel_rfl) (by kernel_rfl) (fun _ _ _ h => h) (Or.inl ⟨by rfl, ?g4qy2⟩) (by assumption) ?g4qr2
            case g4qy2 => first | (intro w hSw; (try dsimp only at hSw); go_simp; done) | (intro w hSw; (try dsimp only at hSw); go_simp; with_reducible rfl)
            case' g4qr2 => try simp only [Act.put, List.setIfInBounds_toArray, List.set_cons_zero, List.set_cons_succ]
            refine wpAnyH_takeL (i := 3) (v := ?g4qv3) rfl (by kernel_rfl) (by kernel_rfl) (by kernel_rfl) (fun _ _ _ h => h) (Or.inl ⟨by rfl, ?g4qy3⟩) (by assumption) ?g4qr3
            case g4qy3 => first | (intro w hSw; (try dsimp only at hSw); go_simp; done) | (intro w hSw; (try dsimp only at hSw); go_simp; with_reducible rfl)
            case' g4qr3 => try simp only [Act.put, List.setIfInBounds_toArray, List.set_cons_zero, List.set_cons_succ]
            refine wpAnyH_takeL (i := 4) (v := undef) rfl (by kernel_rfl) (by kernel_rfl) (by kernel_rfl) (fun _ _ _ h => h) (Or.inr ⟨by rfl, rfl⟩) (by assumption) ?g4qr4
            case' g4qr4 => try simp only [Act.put, List.setIfInBounds_toArray, List.set_cons_zero, List.set_cons_succ]
            refine wpAnyH_takeL (i := 5) (v := undef) rfl (by kernel_rfl) (by kernel_rfl) (by kernel_rfl) (fun _ _ _ h => h) (Or.inr ⟨by rfl, rfl⟩) (by assumption) ?g4qr5
            case' g4qr5 => try simp only [Act.put, List.setIfInBounds_toArray, List.set_cons_zero, List.set_cons_succ]
            refine wpAnyH_takeL (i := 6) (v := undef) rfl (by kernel_rfl) (by kernel_rfl) (by kernel_rfl) (fun _ _ _ h => h) (Or.inr ⟨by rfl, rfl⟩) (by assumption) ?g4qr6
            case' g4qr6 => try simp only [Act.put, List.setIfInBounds_toArray, List.set_cons_zero, List.set_cons_succ]
            refine wpAnyH_takeL (i := 7) (v := undef) rfl (by kernel_rfl) (by kernel_rfl) (by kernel_rfl) (fun _ _ _ h => h) (Or.inr ⟨by rfl, rfl⟩) (by assumption) ?g4qr7
            case' g4qr7 => try simp only [Act.put, List.setIfInBounds_toArray, List.set_cons_zero, List.set_cons_succ]
            refine wpAnyH_takeL (i := 8) (v := undef) rfl (by kernel_rfl) (by kernel_rfl) (by kernel_rfl) (fun _ _ _ h => h) (Or.inr ⟨by rfl, rfl⟩) (by assumption) ?g4qr8
            case' g4qr8 => try simp only [Act.put, List.setIfInBounds_toArray, List.set_cons_zero, List.set_cons_succ]
            refine wpAnyH_takeL (i := 9) (v := undef) rfl (by kernel_rfl) (by kernel_rfl) (by kernel_rfl) (fun _ _ _ h => h) (Or.inr ⟨by rfl, rfl⟩) (by assumption) ?g4qr9
            case' g4qr9 => try simp only [Act.put, List.setIfInBounds_toArray, List.set_cons_zero, List.set_cons_succ]
            refine wpAnyH_takeL (i := 10) (v := undef) rfl (by kernel_rfl) (by kernel_rfl) (by kernel_rfl) (fun _ _ _ h => h) (Or.inr ⟨by rfl, rfl⟩) (by assumption) ?g4qr10
            case' g4qr10 => try simp only [Act.put, List.setIfInBounds_toArray, List.set_cons_zero, List.set_cons_succ]
            refine wpAnyH_takeL (i := 11) (v := undef) rfl (by kernel_rfl) (by kernel_rfl) (by kernel_rfl) (fun _ _ _ h => h) (Or.inr ⟨by rfl, rfl⟩) (by assumption) ?g4qr11
            case' g4qr11 => try simp only [Act.put, List.setIfInBounds_toArray, List.set_cons_zero, List.set_cons_succ]
            refine wpAnyH_takeL (i := 12) (v := undef) rfl (by kernel_rfl) (by kernel_rfl) (by kernel_rfl) (fun _ _ _ h => h) (Or.inr ⟨by rfl, rfl⟩) (by assumption) ?g4qr12
            case' g4qr12 => try simp only [Act.put, List.setIfInBounds_toArray, List.set_cons_zero, List.set_cons_succ]
            refine wpAnyH_takeL (i := 13) (v := undef) rfl (by kernel_rfl) (by kernel_rfl) (by kernel_rfl) (fun _ _ _ h => h) (Or.inr ⟨by rfl, rfl⟩) (by assumption) ?g4qr13
            case' g4qr13 => try simp only [Act.put, List.setIfInBounds_toArray, List.set_cons_zero, List.set_cons_succ]
            refine wpAnyH_takeL (i := 14) (v := undef) rfl (by kernel_rfl) (by kernel_rfl) (by kernel_rfl) (fun _ _ _ h => h) (Or.inr ⟨by rfl, rfl⟩) (by assumption) ?g4qr14
            case' g4qr14 => try simp only [Act.put, List.setIfInBounds_toArray, List.set_cons_zero, List.set_cons_succ]
            refine wpAnyH_takeL (i := 15) (v := undef) rfl (by kernel_rfl) (by kernel_rfl) (by kernel_rfl) (fun _ _ _ h => h) (Or.inr ⟨by rfl, rfl⟩) (by assumption) ?g4qr15
            case' g4qr15 => try simp only [Act.put, List.setIfInBounds_toArray, List.set_cons_zero, List.set_cons_succ]
            refine wpAnyH_takeL (i := 16) (v := ?g4qv16) rfl (by kernel_rfl) (by kernel_rfl) (by kernel_rfl) (fun _ _ _ h => h) (Or.inl ⟨by rfl, ?g4qy16⟩) (by assumption) ?g4qr16
            case g4qy16 => first | (intro w hSw; (try dsimp only at hSw); go_simp; done) | (intro w hSw; (try dsimp only at hSw); go_simp; with_reducible rfl)
            case' g4qr16 => try simp only [Act.put, List.setIfInBounds_toArray, List.set_cons_zero, List.set_cons_succ]
            refine wpAnyH_done (by kernel_rfl) ?_ _
            go_wp2
            go_ret
            exact ⟨rfl, HE0.out.drew⟩
          · have e3 : decide (off < 0) = false := decide_eq_false h3
            have hsub : IntKind.i64.wrap ((s.data.length : Int) - 4) = (s.data.length : Int) - 4 := IntWalk.i64_in _ (by omega)
            by_cases h4 : (s.data.length : Int) - 4 < off
            · obtain rfl : z = 7 := by rw [← HZ.out]; exact relOne_off (.inr rfl) rfl HK.out (.inr h4)
              have e4 : decide ((s.data.length : Int) - 4 < off) = true := decide_eq_true h4
              clear h3 h4 hdl
              go_wp2_with fail
              clear hW0
              refine wp_region_held_drew (S := (fun w' => w'.cell? ⟨w.heap.size + 1, 1, none⟩ = some (.int .i64 off) ∧ w'.cell? ⟨w.heap.size + 1, 0, none⟩ = some (.int .i64 (k : Int)) ∧ w'.cell? ⟨w.heap.size, 1, none⟩ = some (.slice (some ⟨b, o5, none⟩) ns cs) ∧ w'.cell? ⟨b, o5 + k * 5 + 2, none⟩ = some (.slice dA s.data.length dc))) (by kernel_rfl) ⟨r1, r0, o1, c2⟩ (fun hSg5q0 => ?_)
              refine wpAnyH_takeL (i := 0) (v := ?g5qv0) rfl (by kernel_rfl) (by kernel_rfl) (by kernel_rfl) (fun _ _ _ h => h) (Or.inl ⟨by rfl, ?g5qy0⟩) (by assumption) ?g5qr0
              case g5qy0 => first | (intro w hSw; (try dsimp only at hSw); go_simp; done) | (intro w hSw; (try dsimp only at hSw); go_simp; with_reducible rfl)
              case' g5qr0 => try simp only [Act.put, List.setIfInBounds_toArray, List.set_cons_zero, List.set_cons_succ]
              refine wpAnyH_takeL (i := 1) (v := ?g5qv1) rfl (by kernel_rfl) (by kernel_rfl) (by kernel_rfl) (fun _ _ _ h => h) (Or.inl ⟨by rfl, ?g5qy1⟩) (by assumption) ?g5qr1
              case g5qy1 => first | (intro w hSw; (try dsimp only at hSw); go_simp; done) | (intro w hSw; (try dsimp only at hSw); go_simp; with_reducible rfl)
              case' g5qr1 => try simp only [Act.put, List.setIfInBounds_toArray, List.set_cons_zero, List.set_cons_succ]
              refine wpAnyH_takeL (i := 2) (v := ?g5qv2) rfl (by kernel_rfl) (by kernel_rfl) (by kernel_rfl) (fun _ _ _ h => h) (Or.inl ⟨by rfl, ?g5qy2⟩) (by assumption) ?g5qr2
              case g5qy2 => first | (intro w hSw; (try dsimp only at hSw); go_simp; done) | (intro w hSw; (try dsimp only at hSw); go_simp; with_reducible rfl)
              case' g5qr2 => try simp only [Act.put, List.setIfInBounds_toArray, List.set_cons_zero, List.set_cons_succ]
              refine wpAnyH_takeL (i := 3) (v := ?g5qv3) rfl (by kernel_rfl) (by kernel_rfl) (by kernel_rfl) (fun _ _ _ h => h) (Or.inl ⟨by rfl, ?g5qy3⟩) (by assumption) ?g5qr3
              case g5qy3 => first | (intro w hSw; (try dsimp only at hSw); go_simp; done) | (intro w hSw; (try dsimp only at hSw); go_simp; with_reducible rfl)
              case' g5qr3 => try simp only [Act.put, List.setIfInBounds_toArray, List.set_cons_zero, List.set_cons_succ]
              refine wpAnyH_takeL (i := 4) (v := ?g5qv4) rfl (by kernel_rfl) (by kernel_rfl) (by kernel_rfl) (fun _ _ _ h => h) (Or.inl ⟨by rfl, ?g5qy4⟩) (by assumption) ?g5qr4
              case g5qy4 => first | (intro w hSw; (try dsimp only at hSw); go_simp; done) | (intro w hSw; (try dsimp only at hSw); go_simp; with_reducible rfl)
              case' g5qr4 => try simp only [Act.put, List.setIfInBounds_toArray, List.set_cons_zero, List.set_cons_succ]
              refine wpAnyH_takeL (i := 5) (v := ?g5qv5) rfl (by kernel_rfl) (by kernel_rfl) (by kernel_rfl) (fun _ _ _ h => h) (Or.inl ⟨by rfl, ?g5qy5⟩) (by assumption) ?g5qr5
              case g5qy5 => first | (intro w hSw; (try dsimp only at hSw); go_simp; done) | (intro w hSw; (try dsimp only at hSw); go_simp; with_reducible rfl)
              case' g5qr5 => try simp only [Act.put, List.setIfInBounds_toArray, List.set_cons_zero, List.set_cons_succ]
              refine wpAnyH_takeL (i := 6) (v := ?g5qv6) rfl (by kernel_rfl) (by kernel_rfl) (by kernel_rfl) (fun _ _ _ h => h) (Or.inl ⟨by rfl, ?g5qy6⟩) (by assumption) ?g5qr6
              case g5qy6 => first | (intro w hSw; (try dsimp only at hSw); go_simp; done) | (intro w hSw; (try dsimp only at hSw); go_simp; with_reducible rfl)
              case' g5qr6 => try simp only [Act.put, List.setIfInBounds_toArray, List.set_cons_zero, List.set_cons_succ]
              refine wpAnyH_takeL (i := 7) (v := ?g5qv7) rfl (by kernel_rfl) (by kernel_rfl) (by kernel_rfl) (fun _ _ _ h => h) (Or.inl ⟨by rfl, ?g5qy7⟩) (by assumption) ?g5qr7
              case g5qy7 => first | (intro w hSw; (try dsimp only at hSw); go_simp; done) | (intro w hSw; (try dsimp only at hSw); go_simp; with_reducible rfl)
              case' g5qr7 => try simp only [Act.put, List.setIfInBounds_toArray, List.set_cons_zero, List.set_cons_succ]
              refine wpAnyH_takeL (i := 8) (v := ?g5qv8) rfl (by kernel_rfl) (by kernel_rfl) (by kernel_rfl) (fun _ _ _ h => h) (Or.inl ⟨by rfl, ?g5qy8⟩) (by assumption) ?g5qr8
              case g5qy8 => first | (intro w hSw; (try dsimp only at hSw); go_simp; done) | (intro w hSw; (try dsimp only at hSw); go_simp; with_reducible rfl)
              case' g5qr8 => try simp only [Act.put, List.setIfInBounds_toArray, List.set_cons_zero, List.set_cons_succ]
              refine wpAnyH_takeL (i := 9) (v := ?g5qv9) rfl (by kernel_rfl) (by kernel_rfl) (by kernel_rfl) (fun _ _ _ h => h) (Or.inl ⟨by rfl, ?g5qy9⟩) (by assumption) ?g5qr9
              case g5qy9 => first | (intro w hSw; (try dsimp only at hSw); go_simp; done) | (intro w hSw; (try dsimp only at hSw); go_simp; with_reducible rfl)
              case' g5qr9 => try simp only [Act.put, List.setIfInBounds_toArray, List.set_cons_zero, List.set_cons_succ]
              refine wpAnyH_takeL (i := 10) (v := ?g5qv10) rfl (by kernel_rfl) (by kernel_rfl) (by kernel_rfl) (fun _ _ _ h => h) (Or.inl ⟨by rfl, ?g5qy10⟩) (by assumption) ?g5qr10
              case g5qy10 => first | (intro w hSw; (try dsimp only at hSw); go_simp; done) | (intro w hSw; (try dsimp only at hSw); go_simp; with_reducible rfl)
              case' g5qr10 => try simp only [Act.put, List.setIfInBounds_toArray, List.set_cons_zero, List.set_cons_succ]
              refine wpAnyH_takeL (i := 11) (v := ?g5qv11) rfl (by kernel_rfl) (by kernel_rfl) (by kernel_rfl) (fun _ _ _ h => h) (Or.inl ⟨by rfl, ?g5qy11⟩) (by assumption) ?g5qr11
              case g5qy11 => first | (intro w hSw; (try dsimp only at hSw); go_simp; done) | (intro w hSw; (try dsimp only at hSw); go_simp; with_reducible rfl)
              case' g5qr11 => try simp only [Act.put, List.setIfInBounds_toArray, List.set_cons_zero, List.set_cons_succ]
              refine wpAnyH_takeL (i := 12) (v := ?g5qv12) rfl (by kernel_rfl) (by kernel_rfl) (by kernel_rfl) (fun _ _ _ h => h) (Or.inl ⟨by rfl, ?g5qy12⟩) (by assumption) ?g5qr12
              case g5qy12 => first | (intro w hSw; (try dsimp only at hSw); go_simp; done) | (intro w hSw; (try dsimp only at hSw); go_simp; with_reducible rfl)
              case' g5qr12 => try simp only [Act.put, List.setIfInBounds_toArray, List.set_cons_zero, List.set_cons_succ]
              refine wpAnyH_takeL (i := 13) (v := ?g5qv13) rfl (by kernel_rfl) (by kernel_rfl) (by kernel_rfl) (fun _ _ _ h => h) (Or.inl ⟨by rfl, ?g5qy13⟩) (by assumption) ?g5qr13
              case g5qy13 => first | (intro w hSw; (try dsimp only at hSw); go_simp; done) | (intro w hSw; (try dsimp only at hSw); go_simp; with_reducible rfl)
              case' g5qr13 => try simp only [Act.put, List.setIfInBounds_toArray, List.set_cons_zero, List.set_cons_succ]
              refine wpAnyH_takeL (i := 14) (v := ?g5qv14) rfl (by kernel_rfl) (by kernel_rfl) (by kernel_rfl) (fun _ _ _ h => h) (Or.inl ⟨by rfl, ?g5qy14⟩) (by assumption) ?g5qr14
              case g5qy14 => first | (intro w hSw; (try dsimp only at hSw); go_simp; done) | (intro w hSw; (try dsimp only at hSw); go_simp; with_reducible rfl)
              case' g5qr14 => try simp only [Act.put, List.setIfInBounds_toArray, List.set_cons_zero, List.set_cons_succ]
              refine wpAnyH_takeL (i := 15) (v := ?g5qv15) rfl (by kernel_rfl) (by kernel_rfl) (by kernel_rfl) (fun _ _ _ h => h) (Or.inl ⟨by rfl, ?g5qy15⟩) (by assumption) ?g5qr15
              case g5qy15 => first | (intro w hSw; (try dsimp only at hSw); go_simp; done) | (intro w hSw; (try dsimp only at hSw); go_simp; with_reducible rfl)
              case' g5qr15 => try simp only [Act.put, List.setIfInBounds_toArray, List.set_cons_zero, List.set_cons_succ]
              refine wpAnyH_takeL (i := 16) (v := ?g5qv16) rfl (by kernel_rfl) (by kernel_rfl) (by kernel_rfl) (fun _ _ _ h => h) (Or.inl ⟨by rfl, ?g5qy16⟩) (by assumption) ?g5qr16
              case g5qy16 => first | (intro w hSw; (try dsimp only at hSw); go_simp; done) | (intro w hSw; (try dsimp only at hSw); go_simp; with_reducible rfl)
              case' g5qr16 => try simp only [Act.put, List.setIfInBounds_toArray, List.set_cons_zero, List.set_cons_succ]
              refine wpAnyH_done (by kernel_rfl) ?_ _
              go_wp2
              go_ret
              exact ⟨rfl, HE0.out.drew⟩
            · have e4 : decide ((s.data.length : Int) - 4 < off) = false := decide_eq_false h4
              have HFN : Hid (z = if (findSy syms sym.data.toList).isSome then 0 else 17) := hid (by rw [← HZ.out]; exact relOne_fin (.inr rfl) rfl HK.out (fun h => h.elim h3 h4) rfl)
              clear h3 h4 hdl
              go_wp2_with fail
              clear hW0
              refine wp_region_held_drew (S := (fun w' => w'.cell? ⟨w.heap.size + 1, 1, none⟩ = some (.int .i64 off) ∧ w'.cell? ⟨w.heap.size + 1, 0, none⟩ = some (.int .i64 (k : Int)) ∧ w'.cell? ⟨w.heap.size, 1, none⟩ = some (.slice (some ⟨b, o5, none⟩) ns cs) ∧ w'.cell? ⟨b, o5 + k * 5 + 2, none⟩ = some (.slice dA s.data.length dc))) (by kernel_rfl) ⟨r1, r0, o1, c2⟩ (fun hSg6q0 => ?_)
              refine wpAnyH_takeL (i := 0) (v := ?g6qv0) rfl (by kernel_rfl) (by kernel_rfl) (by kernel_rfl) (fun _ _ _ h => h) (Or.inl ⟨by rfl, ?g6qy0⟩) (by assumption) ?g6qr0
              case g6qy0 => first | (intro w hSw; (try dsimp only at hSw); go_simp; done) | (intro w hSw; (try dsimp only at hSw); go_simp; with_reducible rfl)
              case' g6qr0 => try simp only [Act.put, List.setIfInBounds_toArray, List.set_cons_zero, List.set_cons_succ]
              refine wpAnyH_takeL (i := 1) (v := ?g6qv1) rfl (by kernel_rfl) (by kernel_rfl) (by kernel_rfl) (fun _ _ _ h => h) (Or.inl ⟨by rfl, ?g6qy1⟩) (by assumption) ?g6qr1
              case g6qy1 => first | (intro w hSw; (try dsimp only at hSw); go_simp; done) | (intro w hSw; (try dsimp only at hSw); go_simp; with_reducible rfl)
              case' g6qr1 => try simp only [Act.put, List.setIfInBounds_toArray, List.set_cons_zero, List.set_cons_succ]
              refine wpAnyH_takeL (i := 2) (v := ?g6qv2) rfl (by kernel_rfl) (by kernel_rfl) (by kernel_rfl) (fun _ _ _ h => h) (Or.inl ⟨by rfl, ?g6qy2⟩) (by assumption) ?g6qr2
              case g6qy2 => first | (intro w hSw; (try dsimp only at hSw); go_simp; done) | (intro w hSw; (try dsimp only at hSw); go_simp; with_reducible rfl)
              case' g6qr2 => try simp only [Act.put, List.setIfInBounds_toArray, List.set_cons_zero, List.set_cons_succ]
              refine wpAnyH_takeL (i := 3) (v := ?g6qv3) rfl (by kernel_rfl) (by kernel_rfl) (by kernel_rfl) (fun _ _ _ h => h) (Or.inl ⟨by rfl, ?g6qy3⟩) (by assumption) ?g6qr3
              case g6qy3 => first | (intro w hSw; (try dsimp only at hSw); go_simp; done) | (intro w hSw; (try dsimp only at hSw); go_simp; with_reducible rfl)
              case' g6qr3 => try simp only [Act.put, List.setIfInBounds_toArray, List.set_cons_zero, List.set_cons_succ]
              refine wpAnyH_takeL (i := 4) (v := ?g6qv4) rfl (by kernel_rfl) (by kernel_rfl) (by kernel_rfl) (fun _ _ _ h => h) (Or.inl ⟨by rfl, ?g6qy4⟩) (by assumption) ?g6qr4
              case g6qy4 => first | (intro w hSw; (try dsimp only at hSw); go_simp; done) | (intro w hSw; (try dsimp only at hSw); go_simp; with_reducible rfl)
              case' g6qr4 => try simp only [Act.put, List.setIfInBounds_toArray, List.set_cons_zero, List.set_cons_succ]
              refine wpAnyH_takeL (i := 5) (v := ?g6qv5) rfl (by kernel_rfl) (by kernel_rfl) (by kernel_rfl) (fun _ _ _ h => h) (Or.inl ⟨by rfl, ?g6qy5⟩) (by assumption) ?g6qr5
              case g6qy5 => first | (intro w hSw; (try dsimp only at hSw); go_simp; done) | (intro w hSw; (try dsimp only at hSw); go_simp; with_reducible rfl)
              case' g6qr5 => try simp only [Act.put, List.setIfInBounds_toArray, List.set_cons_zero, List.set_cons_succ]
              refine wpAnyH_takeL (i := 6) (v := ?g6qv6) rfl (by kernel_rfl) (by kernel_rfl) (by kernel_rfl) (fun _ _ _ h => h) (Or.inl ⟨by rfl, ?g6qy6⟩) (by assumption) ?g6qr6
              case g6qy6 => first | (intro w hSw; (try dsimp only at hSw); go_simp; done) | (intro w hSw; (try dsimp only at hSw); go_simp; with_reducible rfl)
              case' g6qr6 => try simp only [Act.put, List.setIfInBounds_toArray, List.set_cons_zero, List.set_cons_succ]
              refine wpAnyH_takeL (i := 7) (v := ?g6qv7) rfl (by kernel_rfl) (by kernel_rfl) (by kernel_rfl) (fun _ _ _ h => h) (Or.inl ⟨by rfl, ?g6qy7⟩) (by assumption) ?g6qr7
              case g6qy7 => first | (intro w hSw; (try dsimp only at hSw); go_simp; done) | (intro w hSw; (try dsimp only at hSw); go_simp; with_reducible rfl)
              case' g6qr7 => try simp only [Act.put, List.setIfInBounds_toArray, List.set_cons_zero, List.set_cons_succ]
              refine wpAnyH_takeL (i := 8) (v := ?g6qv8) rfl (by kernel_rfl) (by kernel_rfl) (by kernel_rfl) (fun _ _ _ h => h) (Or.inl ⟨by rfl, ?g6qy8⟩) (by assumption) ?g6qr8
              case g6qy8 => first | (intro w hSw; (try dsimp only at hSw); go_simp; done) | (intro w hSw; (try dsimp only at hSw); go_simp; with_reducible rfl)
              case' g6qr8 => try simp only [Act.put, List.setIfInBounds_toArray, List.set_cons_zero, List.set_cons_succ]
              refine wpAnyH_takeL (i := 9) (v := ?g6qv9) rfl (by kernel_rfl) (by kernel_rfl) (by kernel_rfl) (fun _ _ _ h => h) (Or.inl ⟨by rfl, ?g6qy9⟩) (by assumption) ?g6qr9
              case g6qy9 => first | (intro w hSw; (try dsimp only at hSw); go_simp; done) | (intro w hSw; (try dsimp only at hSw); go_simp; with_reducible rfl)
              case' g6qr9 => try simp only [Act.put, List.setIfInBounds_toArray, List.set_cons_zero, List.set_cons_succ]
              refine wpAnyH_takeL (i := 10) (v := ?g6qv10) rfl (by kernel_rfl) (by kernel_rfl) (by kernel_rfl) (fun _ _ _ h => h) (Or.inl ⟨by rfl, ?g6qy10⟩) (by assumption) ?g6qr10
              case g6qy10 => first | (intro w hSw; (try dsimp only at hSw); go_simp; done) | (intro w hSw; (try dsimp only at hSw); go_simp; with_reducible rfl)
              case' g6qr10 => try simp only [Act.put, List.setIfInBounds_toArray, List.set_cons_zero, List.set_cons_succ]
              refine wpAnyH_takeL (i := 11) (v := ?g6qv11) rfl (by kernel_rfl) (by kernel_rfl) (by kernel_rfl) (fun _ _ _ h => h) (Or.inl ⟨by rfl, ?g6qy11⟩) (by assumption) ?g6qr11
              case g6qy11 => first | (intro w hSw; (try dsimp only at hSw); go_simp; done) | (intro w hSw; (try dsimp only at hSw); go_simp; with_reducible rfl)
              case' g6qr11 => try simp only [Act.put, List.setIfInBounds_toArray, List.set_cons_zero, List.set_cons_succ]
              refine wpAnyH_takeL (i := 12) (v := ?g6qv12) rfl (by kernel_rfl) (by kernel_rfl) (by kernel_rfl) (fun _ _ _ h => h) (Or.inl ⟨by rfl, ?g6qy12⟩) (by assumption) ?g6qr12
              case g6qy12 => first | (intro w hSw; (try dsimp only at hSw); go_simp; done) | (intro w hSw; (try dsimp only at hSw); go_simp; with_reducible rfl)
              case' g6qr12 => try simp only [Act.put, List.setIfInBounds_toArray, List.set_cons_zero, List.set_cons_succ]
              refine wpAnyH_takeL (i := 13) (v := ?g6qv13) rfl (by kernel_rfl) (by kernel_rfl) (by kernel_rfl) (fun _ _ _ h => h) (Or.inl ⟨by rfl, ?g6qy13⟩) (by assumption) ?g6qr13
              case g6qy13 => first | (intro w hSw; (try dsimp only at hSw); go_simp; done) | (intro w hSw; (try dsimp only at hSw); go_simp; with_reducible rfl)
              case' g6qr13 => try simp only [Act.put, List.setIfInBounds_toArray, List.set_cons_zero, List.set_cons_succ]
              refine wpAnyH_takeL (i := 14) (v := ?g6qv14) rfl (by kernel_rfl) (by kernel_rfl) (by kernel_rfl) (fun _ _ _ h => h) (Or.inl ⟨by rfl, ?g6qy14⟩) (by assumption) ?g6qr14
              case g6qy14 => first | (intro w hSw; (try dsimp only at hSw); go_simp; done) | (intro w hSw; (try dsimp only at hSw); go_simp; with_reducible rfl)
              case' g6qr14 => try simp only [Act.put, List.setIfInBounds_toArray, List.set_cons_zero, List.set_cons_succ]
              refine wpAnyH_takeL (i := 15) (v := ?g6qv15) rfl (by kernel_rfl) (by kernel_rfl) (by kernel_rfl) (fun _ _ _ h => h) (Or.inl ⟨by rfl, ?g6qy15⟩) (by assumption) ?g6qr15
              case g6qy15 => first | (intro w hSw; (try dsimp only at hSw); go_simp; done) | (intro w hSw; (try dsimp only at hSw); go_simp; with_reducible rfl)
              case' g6qr15 => try simp only [Act.put, List.setIfInBounds_toArray, List.set_cons_zero, List.set_cons_succ]
              refine wpAnyH_takeL (i := 16) (v := ?g6qv16) rfl (by kernel_rfl) (by kernel_rfl) (by kernel_rfl) (fun _ _ _ h => h) (Or.inl ⟨by rfl, ?g6qy16⟩) (by assumption) ?g6qr16
              case g6qy16 => first | (intro w hSw; (try dsimp only at hSw); go_simp; done) | (intro w hSw; (try dsimp only at hSw); go_simp; with_reducible rfl)
              case' g6qr16 => try simp only [Act.put, List.setIfInBounds_toArray, List.set_cons_zero, List.set_cons_succ]
              refine wpAnyH_done (by kernel_rfl) ?_ _
              clear hsub
              go_wp2_with fail
              refine (find6_any _ Ay ny cy syms (HY.out.ext (Ext.refl _).drew) sym).mono ?_
              rintro e w1 ⟨hx1, rfl⟩
              have HX1 := hid (HE0.out.trans hx1.drew_left)
              clear hx1
              obtain ⟨q, hq⟩ : ∃ q, findSy syms sym.data.toList = q := ⟨_, rfl⟩
              rw [hq] at HFN ⊢
              obtain ⟨y, hy⟩ : ∃ y, q.getD Sy.zero = y := ⟨_, rfl⟩
              rw [hy]
              clear hq hy
              simp only [syVal]
              cases q with
              | none =>
                obtain rfl : z = 17 := HFN.out
                simp only [Option.isSome_none]
                go_wp2
                go_ret
                first | exact ⟨rfl, HX1.out.alloc _⟩ | exact ⟨rfl, HX1.out⟩
              | some q =>
                obtain rfl : z = 0 := HFN.out
                simp only [Option.isSome_some]
                go_wp2
                go_ret
                first | exact ⟨rfl, HX1.out.alloc _⟩ | exact ⟨rfl, HX1.out⟩
  · obtain rfl : z = 2 := by rw [← HZ.out]; exact relOne_arg (.inl ⟨fun h => h1 (.inl h), fun h => h1 (.inr h)⟩)
    have e1 : (kd != 1) = true := by simp; omega
    have e2 : (kd != 2) = true := by simp; omega
    clear h1
    go_enter Try.func34, Try.ntmps34
    go_wp2
    go_ret
    exact ⟨rfl, HE0.out⟩
end Go.Proofs.Ytnlofhbimfcejaa

namespace Go.Proofs.Ytnlofhbimfcejaa
open Go.RowKit Go.Deco
set_option linter.unusedSimpArgs false
set_option linter.unusedVariables false

set_option maxRecDepth 100000 in
set_option maxHeartbeats 1000000 in
theorem share7_any (w : World) (sa fa ka da st ft kt dt : Int) (ya yt : ByteArray) (a1 : 0 ≤ fa) (a2 : fa ≤ 65536) (t1 : 0 ≤ ft) (t2 : ft ≤ 65536) :
    Calls Try.prog 35 #[.agg #[.int .i64 sa, .int .i64 fa, .int .i64 ka, .string ya, .int .i32 da], .agg #[.int .i64 st, .int .i64 ft, .int .i64 kt, .string yt, .int .i32 dt]] w (BoolTo w (shareB ⟨sa, fa, ka, ya, da⟩ ⟨st, ft, kt, yt, dt⟩)) := by
  obtain ⟨z, hz⟩ : ∃ z, shareB ⟨sa, fa, ka, ya, da⟩ ⟨st, ft, kt, yt, dt⟩ = z := ⟨_, rfl⟩
  rw [hz]
  unfold shareB at hz
  dsimp only at hz
  have hx : Ext w ((w.alloc (.cells #[.int .i64 sa, .int .i64 fa, .int .i64 ka, .string ya, .int .i32 da] 36)).alloc (.cells #[.int .i64 st, .int .i64 ft, .int .i64 kt, .string yt, .int .i32 dt] 36)) := ((Ext.refl w).alloc _).alloc _
  have HX := hid hx
  clear hx
  by_cases q1 : sa = st
  · by_cases q2 : fa < ft + 4
    · by_cases q3 : ft < fa + 4
      · rw [decide_eq_true q1, decide_eq_true q2, decide_eq_true q3] at hz
        obtain rfl : true = z := hz
        have p1 : (sa == st) = true := by simpa using q1
        clear q1
        go_enter Try.func35, Try.ntmps35
        go_wp2
        go_ret
        exact ⟨rfl, HX.out⟩
      · rw [decide_eq_true q1, decide_eq_true q2, decide_eq_false q3] at hz
        obtain rfl : false = z := hz
        have p1 : (sa == st) = true := by simpa using q1
        clear q1
        go_enter Try.func35, Try.ntmps35
        go_wp2
        go_ret
        exact ⟨rfl, HX.out⟩
    · rw [decide_eq_false q2, Bool.false_and, Bool.and_false] at hz
      subst hz
      have p1 : (sa == st) = true := by simpa using q1
      clear q1
      go_enter Try.func35, Try.ntmps35
      go_wp2
      go_ret
      exact ⟨rfl, HX.out⟩
  · rw [decide_eq_false q1, Bool.false_and] at hz
    subst hz
    have p1 : (sa == st) = false := by simpa using q1
    clear q1
    go_enter Try.func35, Try.ntmps35
    go_wp2
    go_ret
    exact ⟨rfl, HX.out⟩

set_option maxRecDepth 100000 in
set_option maxHeartbeats 4000000 in
theorem check7_any (w : World) (o : Ob) (As Ay Ar : Option Addr) (ns cs ny cy nr cr : Nat) (hs : Sl secR w All (.slice As ns cs) o.secs) (hy : Sl symR w All (.slice Ay ny cy) o.syms) (hr : Sl relR w All (.slice Ar nr cr) o.rels) :
    Calls Try.prog 13 #[.agg #[.int .u32 o.entry, .slice As ns cs, .slice Ay ny cy, .slice Ar nr cr]] w (ErrIs w (obCheck o)) := by
  obtain ⟨z, hz⟩ : ∃ z, obCheck o = z := ⟨_, rfl⟩
  rw [hz]
  have HZ := hid hz
  have hln := hr.len
  have hrc := hr.cap
  obtain ⟨en, hen⟩ : ∃ en, o.entry = en := ⟨_, rfl⟩
  rw [hen]
  clear hz hen
  obtain ⟨W0, hW0⟩ : ∃ W0, w.alloc (.cells #[.int .u32 en, .slice As ns cs, .slice Ay ny cy, .slice Ar nr cr] 27) = W0 := ⟨_, rfl⟩
  have hE0 : Ext w W0 := by rw [← hW0]; exact (Ext.refl w).alloc _
  have o0 : W0.cell? ⟨w.heap.size, 0, none⟩ = some (.int .u32 en) := by rw [← hW0]; simp [go_sem]
  have o1 : W0.cell? ⟨w.heap.size, 1, none⟩ = some (.slice As ns cs) := by rw [← hW0]; simp [go_sem]
  have o2 : W0.cell? ⟨w.heap.size, 2, none⟩ = some (.slice Ay ny cy) := by rw [← hW0]; simp [go_sem]
  have o3 : W0.cell? ⟨w.heap.size, 3, none⟩ = some (.slice Ar nr cr) := by rw [← hW0]; simp [go_sem]
  have HO := hid (And.intro o0 (And.intro o1 (And.intro o2 o3)))
  have HE0 := hid hE0
  have HS := hid (hs.ext hE0)
  have HY := hid (hy.ext hE0)
  have HR := hid (hr.ext hE0)
  have HLN := hid hln
  clear hE0 hs hy hr hln o0 o2 o3
  go_enter Try.func13, Try.ntmps13
  go_wp2_with fail
  clear hW0 o1
  refine (check5_any W0 As ns cs o.secs HS.out).mono ?_
  rintro e w1 ⟨rfl, hx1⟩
  have HX1 := hid hx1
  clear hx1
  obtain ⟨q, hq⟩ : ∃ q, secCheck o.secs = q := ⟨_, rfl⟩
  rw [hq]
  have HQ := hid hq
  clear hq
  by_cases h1 : q = 0
  case neg =>
    obtain rfl : z = q := by rw [← HZ.out]; exact obCheck_secs HQ.out h1
    have n1 : ((z : Int) != 0) = true := by simpa using h1
    clear h1
    go_wp2
    go_ret
    exact ⟨rfl, HE0.out.trans HX1.out⟩
  subst h1
  have o2 := HX1.out.cell HO.out.2.2.1
  go_wp2_with fail
  clear o2
  refine (check6_any w1 Ay ny cy o.syms (HY.out.ext HX1.out)).mono ?_
  rintro e w2 ⟨rfl, hx2⟩
  have HX2 := hid (HX1.out.trans hx2)
  clear hx2
  obtain ⟨q, hq⟩ : ∃ q, symCheck o.syms = q := ⟨_, rfl⟩
  rw [hq]
  have HQ2 := hid hq
  clear hq
  by_cases h1 : q = 0
  case neg =>
    obtain rfl : z = q := by rw [← HZ.out]; exact obCheck_syms HQ.out HQ2.out h1
    have n1 : ((z : Int) != 0) = true := by simpa using h1
    clear h1
    go_wp2
    go_ret
    exact ⟨rfl, HE0.out.trans HX2.out⟩
  subst h1
  have o3 := HX2.out.cell HO.out.2.2.2
  by_cases hbig : 256 < nr
  · obtain rfl : z = 6 := by rw [← HZ.out]; exact obCheck_many HQ.out HQ2.out (by have := HLN.out; omega)
    go_wp2
    go_ret
    exact ⟨rfl, HE0.out.trans HX2.out⟩
  have HB : Hid (¬ 256 < o.rels.length) := hid (by have := HLN.out; omega)
  go_wp2
  clear o3
  go_loopw [3, 4] (fun er i wr => ∃ k : Nat, k ≤ nr ∧ i = .int .i64 k ∧ er = .int .i64 0 ∧ Hid (Ext W0 wr) ∧ Hid (relsErr o.secs o.syms (o.rels.drop k) = relsErr o.secs o.syms o.rels)) (fun _ i _ => nr - (intOf i).toNat)
  case atStart => exact ⟨0, by omega, rfl, rfl, HX2, hid rfl⟩
  case round =>
    obtain ⟨k, hk, rfl, rfl, HX, HF⟩ := hrel
    obtain ⟨o0, o1, o2, o3⟩ := HO.out
    have o0 := HX.out.cell o0
    have o1 := HX.out.cell o1
    have o2 := HX.out.cell o2
    have o3 := HX.out.cell o3
    by_cases h1 : k < nr
    · obtain ⟨r, hk⟩ : ∃ r, o.rels[k]? = some r := ⟨_, List.getElem?_eq_getElem (by have := HLN.out; omega)⟩
      obtain ⟨b, off, rfl, -, c0, c1, c2, c3, c4⟩ := Sl.rel_at (HR.out.ext HX.out) hk
      have HK := hid hk
      have hcall := fun (W : World) (h : Ext wr W) => one7_any W en As Ay (some ⟨b, off, none⟩) ns cs ny cy nr cr o.secs o.syms ((HS.out.ext HX.out).ext h) ((HY.out.ext HX.out).ext h) r
      obtain ⟨q, hq⟩ : ∃ q, relOne o.secs o.syms r = q := ⟨_, rfl⟩
      have HQ3 := hid hq
      have i1 : (0 : Int) ≤ (k : Int) := by omega
      have i2 : (k : Int) < (nr : Int) := by omega
      clear hk hq
      obtain ⟨sec, of_, kd, sym, add⟩ := r
      dsimp only at c0 c1 c2 c3 c4 hcall
      have HC := hid hcall
      clear hcall
      go_wp2_with fail
      refine wp_region_held_drew (S := (fun w' => w'.cell? ⟨w.heap.size, 0, none⟩ = some (.int .u32 en) ∧ w'.cell? ⟨w.heap.size, 1, none⟩ = some (.slice As ns cs) ∧ w'.cell? ⟨w.heap.size, 2, none⟩ = some (.slice Ay ny cy) ∧ w'.cell? ⟨w.heap.size, 3, none⟩ = some (.slice (some ⟨b, off, none⟩) nr cr) ∧ w'.cell? ⟨b, off + k * 5, none⟩ = some (.int .i64 sec) ∧ w'.cell? ⟨b, off + k * 5 + 1, none⟩ = some (.int .i64 of_) ∧ w'.cell? ⟨b, off + k * 5 + 2, none⟩ = some (.int .i64 kd) ∧ w'.cell? ⟨b, off + k * 5 + 3, none⟩ = some (.string sym) ∧ w'.cell? ⟨b, off + k * 5 + 4, none⟩ = some (.int .i32 add))) (by kernel_rfl) ⟨o0, o1, o2, o3, c0, c1, c2, c3, c4⟩ (fun hSg7q0 => ?_)
      refine wpAnyH_takeL (i := 0) (v := ?g7qv0) rfl (by kernel_rfl) (by kernel_rfl) (by kernel_rfl) (fun _ _ _ h => h) (Or.inl ⟨by rfl, ?g7qy0⟩) (by assumption) ?g7qr0
      case g7qy0 => first | (intro w hSw; (try dsimp only at hSw); go_simp; done) | (intro w hSw; (try dsimp only at hSw); go_simp; with_reducible rfl)
      case' g7qr0 => try simp only [Act.put, List.setIfInBounds_toArray, List.set_cons_zero, List.set_cons_succ]
      refine wpAnyH_takeL (i := 1) (v := ?g7qv1) rfl (by kernel_rfl) (by kernel_rfl) (by kernel_rfl) (fun _ _ _ h => h) (Or.inl ⟨by rfl, ?g7qy1⟩) (by assumption) ?g7qr1
      case g7qy1 => first | (intro w hSw; (try dsimp only at hSw); go_simp; done) | (intro w hSw; (try dsimp only at hSw); go_simp; with_reducible rfl)
      case' g7qr1 => try simp only [Act.put, List.setIfInBounds_toArray, List.set_cons_zero, List.set_cons_succ]
      refine wpAnyH_takeL (i := 2) (v := ?g7qv2) rfl (by kernel_rfl) (by kernel_rfl) (by kernel_rfl) (fun _ _ _ h => h) (Or.inl ⟨by rfl, ?g7qy2⟩) (by assumption) ?g7qr2
      case g7qy2 => first | (intro w hSw; (try dsimp only at hSw); go_simp; done) | (intro w hSw; (try dsimp only at hSw); go_simp; with_reducible rfl)
      case' g7qr2 => try simp only [Act.put, List.setIfInBounds_toArray, List.set_cons_zero, List.set_cons_succ]
      refine wpAnyH_takeL (i := 3) (v := ?g7qv3) rfl (by kernel_rfl) (by kernel_rfl) (by kernel_rfl) (fun _ _ _ h => h) (Or.inl ⟨by rfl, ?g7qy3⟩) (by assumption) ?g7qr3
      case g7qy3 => first | (intro w hSw; (try dsimp only at hSw); go_simp; done) | (intro w hSw; (try dsimp only at hSw); go_simp; with_reducible rfl)
      case' g7qr3 => try simp only [Act.put, List.setIfInBounds_toArray, List.set_cons_zero, List.set_cons_succ]
      refine wpAnyH_takeL (i := 4) (v := ?g7qv4) rfl (by kernel_rfl) (by kernel_rfl) (by kernel_rfl) (fun _ _ _ h => h) (Or.inl ⟨by rfl, ?g7qy4⟩) (by assumption) ?g7qr4
      case g7qy4 => first | (intro w hSw; (try dsimp only at hSw); go_simp; done) | (intro w hSw; (try dsimp only at hSw); go_simp; with_reducible rfl)
      case' g7qr4 => try simp only [Act.put, List.setIfInBounds_toArray, List.set_cons_zero, List.set_cons_succ]
      refine wpAnyH_takeL (i := 5) (v := ?g7qv5) rfl (by kernel_rfl) (by kernel_rfl) (by kernel_rfl) (fun _ _ _ h => h) (Or.inl ⟨by rfl, ?g7qy5⟩) (by assumption) ?g7qr5
      case g7qy5 => first | (intro w hSw; (try dsimp only at hSw); go_simp; done) | (intro w hSw; (try dsimp only at hSw); go_simp; with_reducible rfl)
      case' g7qr5 => try simp only [Act.put, List.setIfInBounds_toArray, List.set_cons_zero, List.set_cons_succ]
      refine wpAnyH_ready (rs := [6]) (by kernel_rfl) (by simp) ?_
      refine AllReadyH.consL rfl (fun K hK => ?_) AllReadyH.nil
      go_simp
      go_at_call 34
      refine (HC.out _ (Ext.refl wr).drew).mono ?_
      rintro e w3 ⟨rfl, hx3⟩
      rw [HQ3.out]
      have HX3 := hid ((Ext.refl wr).drew.trans hx3)
      clear hx3
      refine hK.out _ _ ⟨HX3.out.cell o0, HX3.out.cell o1, HX3.out.cell o2, HX3.out.cell o3, HX3.out.cell c0, HX3.out.cell c1, HX3.out.cell c2, HX3.out.cell c3, HX3.out.cell c4⟩ (fun hSg7q1 => ?_)
      clear hK K
      try simp only [Act.put, List.setIfInBounds_toArray, List.set_cons_zero, List.set_cons_succ]
      refine wpAnyH_takeL (i := 7) (v := ?g7qv7) rfl (by kernel_rfl) (by kernel_rfl) (by kernel_rfl) (fun _ _ _ h => h) (Or.inl ⟨by rfl, ?g7qy7⟩) (by assumption) ?g7qr7
      case g7qy7 => first | (intro w hSw; (try dsimp only at hSw); go_simp; done) | (intro w hSw; (try dsimp only at hSw); go_simp; with_reducible rfl)
      case' g7qr7 => try simp only [Act.put, List.setIfInBounds_toArray, List.set_cons_zero, List.set_cons_succ]
      refine wpAnyH_done (by kernel_rfl) ?_ _
      have HX4 := hid (HX.out.trans HX3.out)
      clear HC c0 c1 c2 c3 c4 o0 o1 o2 o3
      by_cases h2 : q = 0
      case neg =>
        obtain rfl : z = q := by rw [← HZ.out]; exact obCheck_rels HQ.out HQ2.out HB.out (relsErr_hit HK.out HQ3.out h2 HF.out) h2
        have n1 : ((z : Int) != 0) = true := by simpa using h2
        clear h2
        go_wp2
        go_ret
        exact ⟨rfl, HE0.out.trans HX4.out⟩
      subst h2
      have HF2 := hid (relsErr_step HK.out HQ3.out HF.out)
      go_wp2
      first
        | go_roundw
        | refine ⟨?rel, ?measure⟩
      case rel => exact ⟨k + 1, by omega, by go_num, rfl, HX4, HF2⟩
      case measure => simp [intOf]; omega
    · obtain rfl : k = nr := by omega
      have hF := HF.out
      rw [show k = o.rels.length by have := HLN.out; omega] at hF
      have hF0 := relsErr_end hF
      have HF0 := hid hF0
      have HOF := hid (off_small HQ.out HF0.out)
      clear hF hF0 HF o0 o1 o2
      obtain ⟨V, hV⟩ : ∃ V, V = wr := ⟨_, rfl⟩
      obtain rfl := hV
      have HXV := HX
      go_wp2
      clear o3
      go_loopw [5] (fun i wr => ∃ k1 : Nat, k1 ≤ k ∧ i = .int .i64 k1 ∧ Hid (Ext W0 wr) ∧ Hid (sharedTo (o.rels.take k1) (o.rels.drop k1) = sharedTo [] o.rels)) (fun i _ => k - (intOf i).toNat)
      case atStart => exact ⟨0, by omega, rfl, HXV, hid rfl⟩
      case round =>
        obtain ⟨k1, hk1, rfl, HX, HD⟩ := hrel
        have o3 := HX.out.cell HO.out.2.2.2
        by_cases h1 : k1 < k
        · obtain ⟨a, ha⟩ : ∃ a, o.rels[k1]? = some a := ⟨_, List.getElem?_eq_getElem (by have := HLN.out; omega)⟩
          have HK := hid ha
          have i1 : (0 : Int) ≤ (k1 : Int) := by omega
          have i2 : (k1 : Int) < (k : Int) := by omega
          clear ha
          obtain ⟨V2, hV2⟩ : ∃ V2, V2 = wr := ⟨_, rfl⟩
          obtain rfl := hV2
          go_wp2
          clear o3
          go_loopw [6] (fun i wr => ∃ j : Nat, j ≤ k1 ∧ i = .int .i64 j ∧ Hid (Ext W0 wr) ∧ Hid ((o.rels.take j).any (fun b => shareB a b) = false)) (fun i _ => k1 - (intOf i).toNat)
          case atStart => exact ⟨0, by omega, rfl, HX, hid (by simp)⟩
          case round =>
            obtain ⟨j, hj, rfl, HX2, HN⟩ := hrel
            have o3 := HX2.out.cell HO.out.2.2.2
            by_cases h2 : j < k1
            · obtain ⟨t, ht⟩ : ∃ t, o.rels[j]? = some t := ⟨_, List.getElem?_eq_getElem (by have := HLN.out; omega)⟩
              have HJ := hid ht
              obtain ⟨b, off, rfl, -, c0, c1, c2, c3, c4⟩ := Sl.rel_at (HR.out.ext HX2.out) HK.out
              obtain ⟨b', off', hA, -, e0, e1, e2, e3, e4⟩ := Sl.rel_at (HR.out.ext HX2.out) HJ.out
              cases hA
              have hao := HOF.out a (List.mem_of_getElem? HK.out)
              have hto := HOF.out t (List.mem_of_getElem? HJ.out)
              have i3 : (0 : Int) ≤ (j : Int) := by omega
              have i4 : (j : Int) < (k : Int) := by omega
              obtain ⟨q, hq⟩ : ∃ q, shareB a t = q := ⟨_, rfl⟩
              have HQ4 := hid hq
              have hcall := fun (W : World) => share7_any W a.sec a.off a.kind a.add t.sec t.off t.kind t.add a.sym t.sym hao.1 hao.2 hto.1 hto.2
              have HC := hid hcall
              clear ht hq hcall hao hto
              obtain ⟨sa, fa, ka, ya, da⟩ := a
              obtain ⟨st, ft, kt, yt, dt⟩ := t
              dsimp only at c0 c1 c2 c3 c4 e0 e1 e2 e3 e4 HC
              go_wp2_with fail
              refine wp_region_held_drew (S := (fun w' => w'.cell? ⟨w.heap.size, 3, none⟩ = some (.slice (some ⟨b, off, none⟩) k cr) ∧ w'.cell? ⟨b, off + k1 * 5, none⟩ = some (.int .i64 sa) ∧ w'.cell? ⟨b, off + k1 * 5 + 1, none⟩ = some (.int .i64 fa) ∧ w'.cell? ⟨b, off + k1 * 5 + 2, none⟩ = some (.int .i64 ka) ∧ w'.cell? ⟨b, off + k1 * 5 + 3, none⟩ = some (.string ya) ∧ w'.cell? ⟨b, off + k1 * 5 + 4, none⟩ = some (.int .i32 da) ∧ w'.cell? ⟨b, off + j * 5, none⟩ = some (.int .i64 st) ∧ w'.cell? ⟨b, off + j * 5 + 1, none⟩ = some (.int .i64 ft) ∧ w'.cell? ⟨b, off + j * 5 + 2, none⟩ = some (.int .i64 kt) ∧ w'.cell? ⟨b, off + j * 5 + 3, none⟩ = some (.string yt) ∧ w'.cell? ⟨b, off + j * 5 + 4, none⟩ = some (.int .i32 dt))) (by kernel_rfl) ⟨o3, c0, c1, c2, c3, c4, e0, e1, e2, e3, e4⟩ (fun hSg8q0 => ?_)
              refine wpAnyH_takeL (i := 0) (v := ?g8qv0) rfl (by kernel_rfl) (by kernel_rfl) (by kernel_rfl) (fun _ _ _ h => h) (Or.inl ⟨by rfl, ?g8qy0⟩) (by assumption) ?g8qr0
              case g8qy0 => first | (intro w hSw; (try dsimp only at hSw); go_simp; done) | (intro w hSw; (try dsimp only at hSw); go_simp; with_reducible rfl)
              case' g8qr0 => try simp only [Act.put, List.setIfInBounds_toArray, List.set_cons_zero, List.set_cons_succ]
              refine wpAnyH_takeL (i := 1) (v := ?g8qv1) rfl (by kernel_rfl) (by kernel_rfl) (by kernel_rfl) (fun _ _ _ h => h) (Or.inl ⟨by rfl, ?g8qy1⟩) (by assumption) ?g8qr1
              case g8qy1 => first | (intro w hSw; (try dsimp only at hSw); go_simp; done) | (intro w hSw; (try dsimp only at hSw); go_simp; with_reducible rfl)
              case' g8qr1 => try simp only [Act.put, List.setIfInBounds_toArray, List.set_cons_zero, List.set_cons_succ]
              refine wpAnyH_takeL (i := 2) (v := ?g8qv2) rfl (by kernel_rfl) (by kernel_rfl) (by kernel_rfl) (fun _ _ _ h => h) (Or.inl ⟨by rfl, ?g8qy2⟩) (by assumption) ?g8qr2
              case g8qy2 => first | (intro w hSw; (try dsimp only at hSw); go_simp; done) | (intro w hSw; (try dsimp only at hSw); go_simp; with_reducible rfl)
              case' g8qr2 => try simp only [Act.put, List.setIfInBounds_toArray, List.set_cons_zero, List.set_cons_succ]
              refine wpAnyH_takeL (i := 3) (v := ?g8qv3) rfl (by kernel_rfl) (by kernel_rfl) (by kernel_rfl) (fun _ _ _ h => h) (Or.inl ⟨by rfl, ?g8qy3⟩) (by assumption) ?g8qr3
              case g8qy3 => first | (intro w hSw; (try dsimp only at hSw); go_simp; done) | (intro w hSw; (try dsimp only at hSw); go_simp; with_reducible rfl)
              case' g8qr3 => try simp only [Act.put, List.setIfInBounds_toArray, List.set_cons_zero, List.set_cons_succ]
              refine wpAnyH_takeL (i := 4) (v := ?g8qv4) rfl (by kernel_rfl) (by kernel_rfl) (by kernel_rfl) (fun _ _ _ h => h) (Or.inl ⟨by rfl, ?g8qy4⟩) (by assumption) ?g8qr4
              case g8qy4 => first | (intro w hSw; (try dsimp only at hSw); go_simp; done) | (intro w hSw; (try dsimp only at hSw); go_simp; with_reducible rfl)
              case' g8qr4 => try simp only [Act.put, List.setIfInBounds_toArray, List.set_cons_zero, List.set_cons_succ]
              refine wpAnyH_takeL (i := 5) (v := ?g8qv5) rfl (by kernel_rfl) (by kernel_rfl) (by kernel_rfl) (fun _ _ _ h => h) (Or.inl ⟨by rfl, ?g8qy5⟩) (by assumption) ?g8qr5
              case g8qy5 => first | (intro w hSw; (try dsimp only at hSw); go_simp; done) | (intro w hSw; (try dsimp only at hSw); go_simp; with_reducible rfl)
              case' g8qr5 => try simp only [Act.put, List.setIfInBounds_toArray, List.set_cons_zero, List.set_cons_succ]
              refine wpAnyH_takeL (i := 6) (v := ?g8qv6) rfl (by kernel_rfl) (by kernel_rfl) (by kernel_rfl) (fun _ _ _ h => h) (Or.inl ⟨by rfl, ?g8qy6⟩) (by assumption) ?g8qr6
              case g8qy6 => first | (intro w hSw; (try dsimp only at hSw); go_simp; done) | (intro w hSw; (try dsimp only at hSw); go_simp; with_reducible rfl)
              case' g8qr6 => try simp only [Act.put, List.setIfInBounds_toArray, List.set_cons_zero, List.set_cons_succ]
              refine wpAnyH_takeL (i := 7) (v := ?g8qv7) rfl (by kernel_rfl) (by kernel_rfl) (by kernel_rfl) (fun _ _ _ h => h) (Or.inl ⟨by rfl, ?g8qy7⟩) (by assumption) ?g8qr7
              case g8qy7 => first | (intro w hSw; (try dsimp only at hSw); go_simp; done) | (intro w hSw; (try dsimp only at hSw); go_simp; with_reducible rfl)
              case' g8qr7 => try simp only [Act.put, List.setIfInBounds_toArray, List.set_cons_zero, List.set_cons_succ]
              refine wpAnyH_takeL (i := 8) (v := ?g8qv8) rfl (by kernel_rfl) (by kernel_rfl) (by kernel_rfl) (fun _ _ _ h => h) (Or.inl ⟨by rfl, ?g8qy8⟩) (by assumption) ?g8qr8
              case g8qy8 => first | (intro w hSw; (try dsimp only at hSw); go_simp; done) | (intro w hSw; (try dsimp only at hSw); go_simp; with_reducible rfl)
              case' g8qr8 => try simp only [Act.put, List.setIfInBounds_toArray, List.set_cons_zero, List.set_cons_succ]
              refine wpAnyH_takeL (i := 9) (v := ?g8qv9) rfl (by kernel_rfl) (by kernel_rfl) (by kernel_rfl) (fun _ _ _ h => h) (Or.inl ⟨by rfl, ?g8qy9⟩) (by assumption) ?g8qr9
              case g8qy9 => first | (intro w hSw; (try dsimp only at hSw); go_simp; done) | (intro w hSw; (try dsimp only at hSw); go_simp; with_reducible rfl)
              case' g8qr9 => try simp only [Act.put, List.setIfInBounds_toArray, List.set_cons_zero, List.set_cons_succ]
              refine wpAnyH_ready (rs := [10]) (by kernel_rfl) (by simp) ?_
              refine AllReadyH.consL rfl (fun K hK => ?_) AllReadyH.nil
              go_simp
              go_at_call 35
              refine (HC.out _).mono ?_
              rintro e w3 ⟨rfl, hx3⟩
              rw [HQ4.out]
              have HX3 := hid ((Ext.refl wr).drew.trans hx3)
              clear hx3
              refine hK.out _ _ ⟨HX3.out.cell o3, HX3.out.cell c0, HX3.out.cell c1, HX3.out.cell c2, HX3.out.cell c3, HX3.out.cell c4, HX3.out.cell e0, HX3.out.cell e1, HX3.out.cell e2, HX3.out.cell e3, HX3.out.cell e4⟩ (fun hSg8q1 => ?_)
              clear hK K
              try simp only [Act.put, List.setIfInBounds_toArray, List.set_cons_zero, List.set_cons_succ]
              refine wpAnyH_done (by kernel_rfl) ?_ _
              have HX4 := hid (HX2.out.trans HX3.out)
              clear HC c0 c1 c2 c3 c4 e0 e1 e2 e3 e4 o3
              cases q with
              | true =>
                have hsh := shared_hit HK.out (any_take_hit HJ.out HQ4.out h2) HD.out
                have hzz := obCheck_last HQ.out HQ2.out HB.out HF0.out hsh
                rw [HZ.out] at hzz
                obtain rfl : z = 10 := hzz
                clear hsh
                go_wp2
                go_ret
                exact ⟨rfl, HE0.out.trans HX4.out⟩
              | false =>
                have HN2 := hid (any_take_step HJ.out HQ4.out HN.out)
                go_wp2
                first
                  | go_roundw
                  | refine ⟨?rel, ?measure⟩
                case rel => exact ⟨j + 1, by omega, by go_num, HX4, HN2⟩
                case measure => simp [intOf]; omega
            · obtain rfl : j = k1 := by omega
              have HD2 := hid (shared_step HK.out HN.out HD.out)
              go_wp2
              first
                | go_roundw
                | refine ⟨?rel, ?measure⟩
              case rel => exact ⟨j + 1, by omega, by go_num, HX2, HD2⟩
              case measure => simp [intOf]; omega
        · obtain rfl : k1 = k := by omega
          have hsh : sharedTo [] o.rels = false := by
            have := HD.out
            rw [show k1 = o.rels.length by have := HLN.out; omega] at this
            exact shared_end this
          have hzz := obCheck_last HQ.out HQ2.out HB.out HF0.out hsh
          rw [HZ.out] at hzz
          obtain rfl : z = 0 := hzz
          clear hsh
          go_wp2
          go_ret
          exact ⟨rfl, HE0.out.trans HX.out⟩
end Go.Proofs.Ytnlofhbimfcejaa
