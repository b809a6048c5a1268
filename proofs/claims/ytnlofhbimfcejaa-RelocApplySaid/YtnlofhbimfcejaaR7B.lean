/- decompilerref07: checkOne, share, Check. -/
import Derived.Test.YtnlofhbimfcejaaRelA
import Derived.Test.YtnlofhbimfcejaaSyAt
import Derived.Test.YtnlofhbimfcejaaRelB
import Derived.Test.YtnlofhbimfcejaaR5C
import Derived.Test.YtnlofhbimfcejaaR6A
namespace Go.Proofs.Ytnlofhbimfcejaa
open Go.RowKit Go.Deco
set_option linter.unusedSimpArgs false
set_option linter.unusedVariables false

set_option maxRecDepth 100000 in
set_option maxHeartbeats 4000000 in
theorem one7_any (w : World) (en : Nat) (As Ay Ar : Option Addr) (ns cs ny cy nr cr : Nat) (secs : List Sec) (syms : List Sy) (hs : Sl secR w All (.slice As ns cs) secs) (hy : Sl symR w All (.slice Ay ny cy) syms) (r : Rl) :
    Calls Try.prog 34 #[.agg #[.int .u32 en, .slice As ns cs, .slice Ay ny cy, .slice Ar nr cr], .agg #[.int .i64 r.sec, .int .i64 r.off, .int .i64 r.kind, .string r.sym, .int .i32 r.add]] w (ErrIs w (relOne secs syms r)) := by
  obtain ⟨z, hz⟩ : ∃ z, relOne secs syms r = z := ⟨_, rfl⟩
  rw [hz]
  have HZ := hid hz
  clear hz
  obtain ⟨sec, off, kd, sym, add⟩ := r
  dsimp only at HZ ⊢
  have hln := hs.len
  have hsc := hs.cap
  obtain ⟨W0, hW0⟩ : ∃ W0, (w.alloc (.cells #[.int .u32 en, .slice As ns cs, .slice Ay ny cy, .slice Ar nr cr] 27)).alloc (.cells #[.int .i64 sec, .int .i64 off, .int .i64 kd, .string sym, .int .i32 add] 36) = W0 := ⟨_, rfl⟩
  have hE0 : Ext w W0 := by rw [← hW0]; exact ((Ext.refl w).alloc _).alloc _
  have o1 : W0.cell? ⟨w.heap.size, 1, none⟩ = some (.slice As ns cs) := by rw [← hW0]; simp [go_sem]
  have o2 : W0.cell? ⟨w.heap.size, 2, none⟩ = some (.slice Ay ny cy) := by rw [← hW0]; simp [go_sem]
  have r0 : W0.cell? ⟨w.heap.size + 1, 0, none⟩ = some (.int .i64 sec) := by rw [← hW0]; simp [go_sem]
  have r1 : W0.cell? ⟨w.heap.size + 1, 1, none⟩ = some (.int .i64 off) := by rw [← hW0]; simp [go_sem]
  have r2 : W0.cell? ⟨w.heap.size + 1, 2, none⟩ = some (.int .i64 kd) := by rw [← hW0]; simp [go_sem]
  have r3 : W0.cell? ⟨w.heap.size + 1, 3, none⟩ = some (.string sym) := by rw [← hW0]; simp [go_sem]
  have HE0 := hid hE0
  have HS := hid (hs.ext hE0)
  have HY := hid (hy.ext hE0)
  have HLN := hid hln
  clear hE0 hs hy hln
  by_cases h1 : kd = 1 ∨ kd = 2
  · by_cases h2 : sec < 0
    · obtain rfl : z = 2 := by rw [← HZ.out]; exact relOne_arg (.inr (.inl h2))
      rcases h1 with rfl | rfl
      all_goals
        go_enter Try.func34, Try.ntmps34
        go_wp2
        go_ret
        exact ⟨rfl, HE0.out⟩
    · obtain ⟨k, rfl⟩ : ∃ k : Nat, sec = k := ⟨sec.toNat, by omega⟩
      by_cases h3 : ns ≤ k
      · obtain rfl : z = 2 := by rw [← HZ.out]; exact relOne_arg (.inr (.inr (by have := HLN.out; show (secs.length : Int) ≤ k; omega)))
        clear h2
        rcases h1 with rfl | rfl
        all_goals
          go_enter Try.func34, Try.ntmps34
          go_wp2
          go_ret
          exact ⟨rfl, HE0.out⟩
      · obtain ⟨s, hk⟩ : ∃ s, secs[k]? = some s := ⟨_, List.getElem?_eq_getElem (by have := HLN.out; omega)⟩
        obtain ⟨b, o5, dA, dc, rfl, -, hdl, -, -, c0, c1, c2, c3, c4⟩ := HS.out.sec_at hk
        have HK := hid hk
        have i1 : (0 : Int) ≤ (k : Int) := by omega
        have i2 : (k : Int) < (ns : Int) := by omega
        clear h2 hk c0 c1 c3 c4
        rcases h1 with rfl | rfl
        · go_enter Try.func34, Try.ntmps34
          by_cases h3 : off < 0
          · obtain rfl : z = 7 := by rw [← HZ.out]; exact relOne_off (.inl rfl) rfl HK.out (.inl h3)
            have e3 : decide (off < 0) = true := decide_eq_true h3
            clear h3
            go_wp2_with fail
            clear hW0
            refine wp_region_held_drew (S := (fun w' => w'.cell? ⟨w.heap.size + 1, 1, none⟩ = some (.int .i64 off))) (by kernel_rfl) r1 (fun hSg17q0 => ?_)
            refine wpAnyH_takeL (i := 0) (v := ?g17qv0) rfl (by kernel_rfl) (by kernel_rfl) (by kernel_rfl) (fun _ _ _ h => h) (Or.inl ⟨by rfl, ?g17qy0⟩) (by assumption) ?g17qr0
            case g17qy0 => first | (intro w hSw; (try dsimp only at hSw); go_simp; done) | (intro w hSw; (try dsimp only at hSw); go_simp; with_reducible rfl)
            case' g17qr0 => try simp only [Act.put, List.setIfInBounds_toArray, List.set_cons_zero, List.set_cons_succ]
            refine wpAnyH_takeL (i := 1) (v := ?g17qv1) rfl (by kernel_rfl) (by kernel_rfl) (by kernel_rfl) (fun _ _ _ h => h) (Or.inl ⟨by rfl, ?g17qy1⟩) (by assumption) ?g17qr1
            case g17qy1 => first | (intro w hSw; (try dsimp only at hSw); go_simp; done) | (intro w hSw; (try dsimp only at hSw); go_simp; with_reducible rfl)
            case' g17qr1 => try simp only [Act.put, List.setIfInBounds_toArray, List.set_cons_zero, List.set_cons_succ]
            refine wpAnyH_takeL (i := 2) (v := ?g17qv2) rfl (by kernel_rfl) (by kernel_rfl) (by kernel_rfl) (fun _ _ _ h => h) (Or.inl ⟨by rfl, ?g17qy2⟩) (by assumption) ?g17qr2
            case g17qy2 => first | (intro w hSw; (try dsimp only at hSw); go_simp; done) | (intro w hSw; (try dsimp only at hSw); go_simp; with_reducible rfl)
            case' g17qr2 => try simp only [Act.put, List.setIfInBounds_toArray, List.set_cons_zero, List.set_cons_succ]
            refine wpAnyH_takeL (i := 3) (v := ?g17qv3) rfl (by kernel_rfl) (by kernel_rfl) (by kernel_rfl) (fun _ _ _ h => h) (Or.inl ⟨by rfl, ?g17qy3⟩) (by assumption) ?g17qr3
            case g17qy3 => first | (intro w hSw; (try dsimp only at hSw); go_simp; done) | (intro w hSw; (try dsimp only at hSw); go_simp; with_reducible rfl)
            case' g17qr3 => try simp only [Act.put, List.setIfInBounds_toArray, List.set_cons_zero, List.set_cons_succ]
            refine wpAnyH_takeL (i := 4) (v := undef) rfl (by kernel_rfl) (by kernel_rfl) (by kernel_rfl) (fun _ _ _ h => h) (Or.inr ⟨by rfl, rfl⟩) (by assumption) ?g17qr4
            case' g17qr4 => try simp only [Act.put, List.setIfInBounds_toArray, List.set_cons_zero, List.set_cons_succ]
            refine wpAnyH_takeL (i := 5) (v := undef) rfl (by kernel_rfl) (by kernel_rfl) (by kernel_rfl) (fun _ _ _ h => h) (Or.inr ⟨by rfl, rfl⟩) (by assumption) ?g17qr5
            case' g17qr5 => try simp only [Act.put, List.setIfInBounds_toArray, List.set_cons_zero, List.set_cons_succ]
            refine wpAnyH_takeL (i := 6) (v := undef) rfl (by kernel_rfl) (by kernel_rfl) (by kernel_rfl) (fun _ _ _ h => h) (Or.inr ⟨by rfl, rfl⟩) (by assumption) ?g17qr6
            case' g17qr6 => try simp only [Act.put, List.setIfInBounds_toArray, List.set_cons_zero, List.set_cons_succ]
            refine wpAnyH_takeL (i := 7) (v := undef) rfl (by kernel_rfl) (by kernel_rfl) (by kernel_rfl) (fun _ _ _ h => h) (Or.inr ⟨by rfl, rfl⟩) (by assumption) ?g17qr7
            case' g17qr7 => try simp only [Act.put, List.setIfInBounds_toArray, List.set_cons_zero, List.set_cons_succ]
            refine wpAnyH_takeL (i := 8) (v := undef) rfl (by kernel_rfl) (by kernel_rfl) (by kernel_rfl) (fun _ _ _ h => h) (Or.inr ⟨by rfl, rfl⟩) (by assumption) ?g17qr8
            case' g17qr8 => try simp only [Act.put, List.setIfInBounds_toArray, List.set_cons_zero, List.set_cons_succ]
            refine wpAnyH_takeL (i := 9) (v := undef) rfl (by kernel_rfl) (by kernel_rfl) (by kernel_rfl) (fun _ _ _ h => h) (Or.inr ⟨by rfl, rfl⟩) (by assumption) ?g17qr9
            case' g17qr9 => try simp only [Act.put, List.setIfInBounds_toArray, List.set_cons_zero, List.set_cons_succ]
            refine wpAnyH_takeL (i := 10) (v := undef) rfl (by kernel_rfl) (by kernel_rfl) (by kernel_rfl) (fun _ _ _ h => h) (Or.inr ⟨by rfl, rfl⟩) (by assumption) ?g17qr10
            case' g17qr10 => try simp only [Act.put, List.setIfInBounds_toArray, List.set_cons_zero, List.set_cons_succ]
            refine wpAnyH_takeL (i := 11) (v := undef) rfl (by kernel_rfl) (by kernel_rfl) (by kernel_rfl) (fun _ _ _ h => h) (Or.inr ⟨by rfl, rfl⟩) (by assumption) ?g17qr11
            case' g17qr11 => try simp only [Act.put, List.setIfInBounds_toArray, List.set_cons_zero, List.set_cons_succ]
            refine wpAnyH_takeL (i := 12) (v := undef) rfl (by kernel_rfl) (by kernel_rfl) (by kernel_rfl) (fun _ _ _ h => h) (Or.inr ⟨by rfl, rfl⟩) (by assumption) ?g17qr12
            case' g17qr12 => try simp only [Act.put, List.setIfInBounds_toArray, List.set_cons_zero, List.set_cons_succ]
            refine wpAnyH_takeL (i := 13) (v := undef) rfl (by kernel_rfl) (by kernel_rfl) (by kernel_rfl) (fun _ _ _ h => h) (Or.inr ⟨by rfl, rfl⟩) (by assumption) ?g17qr13
            case' g17qr13 => try simp only [Act.put, List.setIfInBounds_toArray, List.set_cons_zero, List.set_cons_succ]
            refine wpAnyH_takeL (i := 14) (v := undef) rfl (by kernel_rfl) (by kernel_rfl) (by kernel_rfl) (fun _ _ _ h => h) (Or.inr ⟨by rfl, rfl⟩) (by assumption) ?g17qr14
            case' g17qr14 => try simp only [Act.put, List.setIfInBounds_toArray, List.set_cons_zero, List.set_cons_succ]
            refine wpAnyH_takeL (i := 15) (v := undef) rfl (by kernel_rfl) (by kernel_rfl) (by kernel_rfl) (fun _ _ _ h => h) (Or.inr ⟨by rfl, rfl⟩) (by assumption) ?g17qr15
            case' g17qr15 => try simp only [Act.put, List.setIfInBounds_toArray, List.set_cons_zero, List.set_cons_succ]
            refine wpAnyH_takeL (i := 16) (v := ?g17qv16) rfl (by kernel_rfl) (by kernel_rfl) (by kernel_rfl) (fun _ _ _ h => h) (Or.inl ⟨by rfl, ?g17qy16⟩) (by assumption) ?g17qr16
            case g17qy16 => first | (intro w hSw; (try dsimp only at hSw); go_simp; done) | (intro w hSw; (try dsimp only at hSw); go_simp; with_reducible rfl)
            case' g17qr16 => try simp only [Act.put, List.setIfInBounds_toArray, List.set_cons_zero, List.set_cons_succ]
            refine wpAnyH_done (by kernel_rfl) ?_ _
            go_wp2
            go_ret
            exact ⟨rfl, HE0.out.drew⟩
          · have e3 : decide (off < 0) = false := decide_eq_false h3
            have hsub : IntKind.i64.wrap ((s.data.length : Int) - 4) = (s.data.length : Int) - 4 := IntWalk.i64_in _ (by omega)
            by_cases h4 : (s.data.length : Int) - 4 < off
            · obtain rfl : z = 7 := by rw [← HZ.out]; exact relOne_off (.inl rfl) rfl HK.out (.inr h4)
              have e4 : decide ((s.data.length : Int) - 4 < off) = true := decide_eq_true h4
              clear h3 h4 hdl
              go_wp2_with fail
              clear hW0
              refine wp_region_held_drew (S := (fun w' => w'.cell? ⟨w.heap.size + 1, 1, none⟩ = some (.int .i64 off) ∧ w'.cell? ⟨w.heap.size + 1, 0, none⟩ = some (.int .i64 (k : Int)) ∧ w'.cell? ⟨w.heap.size, 1, none⟩ = some (.slice (some ⟨b, o5, none⟩) ns cs) ∧ w'.cell? ⟨b, o5 + k * 5 + 2, none⟩ = some (.slice dA s.data.length dc))) (by kernel_rfl) ⟨r1, r0, o1, c2⟩ (fun hSg18q0 => ?_)
              refine wpAnyH_takeL (i := 0) (v := ?g18qv0) rfl (by kernel_rfl) (by kernel_rfl) (by kernel_rfl) (fun _ _ _ h => h) (Or.inl ⟨by rfl, ?g18qy0⟩) (by assumption) ?g18qr0
              case g18qy0 => first | (intro w hSw; (try dsimp only at hSw); go_simp; done) | (intro w hSw; (try dsimp only at hSw); go_simp; with_reducible rfl)
              case' g18qr0 => try simp only [Act.put, List.setIfInBounds_toArray, List.set_cons_zero, List.set_cons_succ]
              refine wpAnyH_takeL (i := 1) (v := ?g18qv1) rfl (by kernel_rfl) (by kernel_rfl) (by kernel_rfl) (fun _ _ _ h => h) (Or.inl ⟨by rfl, ?g18qy1⟩) (by assumption) ?g18qr1
              case g18qy1 => first | (intro w hSw; (try dsimp only at hSw); go_simp; done) | (intro w hSw; (try dsimp only at hSw); go_simp; with_reducible rfl)
              case' g18qr1 => try simp only [Act.put, List.setIfInBounds_toArray, List.set_cons_zero, List.set_cons_succ]
              refine wpAnyH_takeL (i := 2) (v := ?g18qv2) rfl (by kernel_rfl) (by kernel_rfl) (by kernel_rfl) (fun _ _ _ h => h) (Or.inl ⟨by rfl, ?g18qy2⟩) (by assumption) ?g18qr2
              case g18qy2 => first | (intro w hSw; (try dsimp only at hSw); go_simp; done) | (intro w hSw; (try dsimp only at hSw); go_simp; with_reducible rfl)
              case' g18qr2 => try simp only [Act.put, List.setIfInBounds_toArray, List.set_cons_zero, List.set_cons_succ]
              refine wpAnyH_takeL (i := 3) (v := ?g18qv3) rfl (by kernel_rfl) (by kernel_rfl) (by kernel_rfl) (fun _ _ _ h => h) (Or.inl ⟨by rfl, ?g18qy3⟩) (by assumption) ?g18qr3
              case g18qy3 => first | (intro w hSw; (try dsimp only at hSw); go_simp; done) | (intro w hSw; (try dsimp only at hSw); go_simp; with_reducible rfl)
              case' g18qr3 => try simp only [Act.put, List.setIfInBounds_toArray, List.set_cons_zero, List.set_cons_succ]
              refine wpAnyH_takeL (i := 4) (v := ?g18qv4) rfl (by kernel_rfl) (by kernel_rfl) (by kernel_rfl) (fun _ _ _ h => h) (Or.inl ⟨by rfl, ?g18qy4⟩) (by assumption) ?g18qr4
              case g18qy4 => first | (intro w hSw; (try dsimp only at hSw); go_simp; done) | (intro w hSw; (try dsimp only at hSw); go_simp; with_reducible rfl)
              case' g18qr4 => try simp only [Act.put, List.setIfInBounds_toArray, List.set_cons_zero, List.set_cons_succ]
              refine wpAnyH_takeL (i := 5) (v := ?g18qv5) rfl (by kernel_rfl) (by kernel_rfl) (by kernel_rfl) (fun _ _ _ h => h) (Or.inl ⟨by rfl, ?g18qy5⟩) (by assumption) ?g18qr5
              case g18qy5 => first | (intro w hSw; (try dsimp only at hSw); go_simp; done) | (intro w hSw; (try dsimp only at hSw); go_simp; with_reducible rfl)
              case' g18qr5 => try simp only [Act.put, List.setIfInBounds_toArray, List.set_cons_zero, List.set_cons_succ]
              refine wpAnyH_takeL (i := 6) (v := ?g18qv6) rfl (by kernel_rfl) (by kernel_rfl) (by kernel_rfl) (fun _ _ _ h => h) (Or.inl ⟨by rfl, ?g18qy6⟩) (by assumption) ?g18qr6
              case g18qy6 => first | (intro w hSw; (try dsimp only at hSw); go_simp; done) | (intro w hSw; (try dsimp only at hSw); go_simp; with_reducible rfl)
              case' g18qr6 => try simp only [Act.put, List.setIfInBounds_toArray, List.set_cons_zero, List.set_cons_succ]
              refine wpAnyH_takeL (i := 7) (v := ?g18qv7) rfl (by kernel_rfl) (by kernel_rfl) (by kernel_rfl) (fun _ _ _ h => h) (Or.inl ⟨by rfl, ?g18qy7⟩) (by assumption) ?g18qr7
              case g18qy7 => first | (intro w hSw; (try dsimp only at hSw); go_simp; done) | (intro w hSw; (try dsimp only at hSw); go_simp; with_reducible rfl)
              case' g18qr7 => try simp only [Act.put, List.setIfInBounds_toArray, List.set_cons_zero, List.set_cons_succ]
              refine wpAnyH_takeL (i := 8) (v := ?g18qv8) rfl (by kernel_rfl) (by kernel_rfl) (by kernel_rfl) (fun _ _ _ h => h) (Or.inl ⟨by rfl, ?g18qy8⟩) (by assumption) ?g18qr8
              case g18qy8 => first | (intro w hSw; (try dsimp only at hSw); go_simp; done) | (intro w hSw; (try dsimp only at hSw); go_simp; with_reducible rfl)
              case' g18qr8 => try simp only [Act.put, List.setIfInBounds_toArray, List.set_cons_zero, List.set_cons_succ]
              refine wpAnyH_takeL (i := 9) (v := ?g18qv9) rfl (by kernel_rfl) (by kernel_rfl) (by kernel_rfl) (fun _ _ _ h => h) (Or.inl ⟨by rfl, ?g18qy9⟩) (by assumption) ?g18qr9
              case g18qy9 => first | (intro w hSw; (try dsimp only at hSw); go_simp; done) | (intro w hSw; (try dsimp only at hSw); go_simp; with_reducible rfl)
              case' g18qr9 => try simp only [Act.put, List.setIfInBounds_toArray, List.set_cons_zero, List.set_cons_succ]
              refine wpAnyH_takeL (i := 10) (v := ?g18qv10) rfl (by kernel_rfl) (by kernel_rfl) (by kernel_rfl) (fun _ _ _ h => h) (Or.inl ⟨by rfl, ?g18qy10⟩) (by assumption) ?g18qr10
              case g18qy10 => first | (intro w hSw; (try dsimp only at hSw); go_simp; done) | (intro w hSw; (try dsimp only at hSw); go_simp; with_reducible rfl)
              case' g18qr10 => try simp only [Act.put, List.setIfInBounds_toArray, List.set_cons_zero, List.set_cons_succ]
              refine wpAnyH_takeL (i := 11) (v := ?g18qv11) rfl (by kernel_rfl) (by kernel_rfl) (by kernel_rfl) (fun _ _ _ h => h) (Or.inl ⟨by rfl, ?g18qy11⟩) (by assumption) ?g18qr11
              case g18qy11 => first | (intro w hSw; (try dsimp only at hSw); go_simp; done) | (intro w hSw; (try dsimp only at hSw); go_simp; with_reducible rfl)
              case' g18qr11 => try simp only [Act.put, List.setIfInBounds_toArray, List.set_cons_zero, List.set_cons_succ]
              refine wpAnyH_takeL (i := 12) (v := ?g18qv12) rfl (by kernel_rfl) (by kernel_rfl) (by kernel_rfl) (fun _ _ _ h => h) (Or.inl ⟨by rfl, ?g18qy12⟩) (by assumption) ?g18qr12
              case g18qy12 => first | (intro w hSw; (try dsimp only at hSw); go_simp; done) | (intro w hSw; (try dsimp only at hSw); go_simp; with_reducible rfl)
              case' g18qr12 => try simp only [Act.put, List.setIfInBounds_toArray, List.set_cons_zero, List.set_cons_succ]
              refine wpAnyH_takeL (i := 13) (v := ?g18qv13) rfl (by kernel_rfl) (by kernel_rfl) (by kernel_rfl) (fun _ _ _ h => h) (Or.inl ⟨by rfl, ?g18qy13⟩) (by assumption) ?g18qr13
              case g18qy13 => first | (intro w hSw; (try dsimp only at hSw); go_simp; done) | (intro w hSw; (try dsimp only at hSw); go_simp; with_reducible rfl)
              case' g18qr13 => try simp only [Act.put, List.setIfInBounds_toArray, List.set_cons_zero, List.set_cons_succ]
              refine wpAnyH_takeL (i := 14) (v := ?g18qv14) rfl (by kernel_rfl) (by kernel_rfl) (by kernel_rfl) (fun _ _ _ h => h) (Or.inl ⟨by rfl, ?g18qy14⟩) (by assumption) ?g18qr14
              case g18qy14 => first | (intro w hSw; (try dsimp only at hSw); go_simp; done) | (intro w hSw; (try dsimp only at hSw); go_simp; with_reducible rfl)
              case' g18qr14 => try simp only [Act.put, List.setIfInBounds_toArray, List.set_cons_zero, List.set_cons_succ]
              refine wpAnyH_takeL (i := 15) (v := ?g18qv15) rfl (by kernel_rfl) (by kernel_rfl) (by kernel_rfl) (fun _ _ _ h => h) (Or.inl ⟨by rfl, ?g18qy15⟩) (by assumption) ?g18qr15
              case g18qy15 => first | (intro w hSw; (try dsimp only at hSw); go_simp; done) | (intro w hSw; (try dsimp only at hSw); go_simp; with_reducible rfl)
              case' g18qr15 => try simp only [Act.put, List.setIfInBounds_toArray, List.set_cons_zero, List.set_cons_succ]
              refine wpAnyH_takeL (i := 16) (v := ?g18qv16) rfl (by kernel_rfl) (by kernel_rfl) (by kernel_rfl) (fun _ _ _ h => h) (Or.inl ⟨by rfl, ?g18qy16⟩) (by assumption) ?g18qr16
              case g18qy16 => first | (intro w hSw; (try dsimp only at hSw); go_simp; done) | (intro w hSw; (try dsimp only at hSw); go_simp; with_reducible rfl)
              case' g18qr16 => try simp only [Act.put, List.setIfInBounds_toArray, List.set_cons_zero, List.set_cons_succ]
              refine wpAnyH_done (by kernel_rfl) ?_ _
              go_wp2
              go_ret
              exact ⟨rfl, HE0.out.drew⟩
            · have e4 : decide ((s.data.length : Int) - 4 < off) = false := decide_eq_false h4
              have HFN : Hid (z = if (findSy syms sym.data.toList).isSome then 0 else 17) := hid (by rw [← HZ.out]; exact relOne_fin (.inl rfl) rfl HK.out (fun h => h.elim h3 h4) rfl)
              clear h3 h4 hdl
              go_wp2_with fail
              clear hW0
              refine wp_region_held_drew (S := (fun w' => w'.cell? ⟨w.heap.size + 1, 1, none⟩ = some (.int .i64 off) ∧ w'.cell? ⟨w.heap.size + 1, 0, none⟩ = some (.int .i64 (k : Int)) ∧ w'.cell? ⟨w.heap.size, 1, none⟩ = some (.slice (some ⟨b, o5, none⟩) ns cs) ∧ w'.cell? ⟨b, o5 + k * 5 + 2, none⟩ = some (.slice dA s.data.length dc))) (by kernel_rfl) ⟨r1, r0, o1, c2⟩ (fun hSg19q0 => ?_)
              refine wpAnyH_takeL (i := 0) (v := ?g19qv0) rfl (by kernel_rfl) (by kernel_rfl) (by kernel_rfl) (fun _ _ _ h => h) (Or.inl ⟨by rfl, ?g19qy0⟩) (by assumption) ?g19qr0
              case g19qy0 => first | (intro w hSw; (try dsimp only at hSw); go_simp; done) | (intro w hSw; (try dsimp only at hSw); go_simp; with_reducible rfl)
              case' g19qr0 => try simp only [Act.put, List.setIfInBounds_toArray, List.set_cons_zero, List.set_cons_succ]
              refine wpAnyH_takeL (i := 1) (v := ?g19qv1) rfl (by kernel_rfl) (by kernel_rfl) (by kernel_rfl) (fun _ _ _ h => h) (Or.inl ⟨by rfl, ?g19qy1⟩) (by assumption) ?g19qr1
              case g19qy1 => first | (intro w hSw; (try dsimp only at hSw); go_simp; done) | (intro w hSw; (try dsimp only at hSw); go_simp; with_reducible rfl)
              case' g19qr1 => try simp only [Act.put, List.setIfInBounds_toArray, List.set_cons_zero, List.set_cons_succ]
              refine wpAnyH_takeL (i := 2) (v := ?g19qv2) rfl (by kernel_rfl) (by kernel_rfl) (by kernel_rfl) (fun _ _ _ h => h) (Or.inl ⟨by rfl, ?g19qy2⟩) (by assumption) ?g19qr2
              case g19qy2 => first | (intro w hSw; (try dsimp only at hSw); go_simp; done) | (intro w hSw; (try dsimp only at hSw); go_simp; with_reducible rfl)
              case' g19qr2 => try simp only [Act.put, List.setIfInBounds_toArray, List.set_cons_zero, List.set_cons_succ]
              refine wpAnyH_takeL (i := 3) (v := ?g19qv3) rfl (by kernel_rfl) (by kernel_rfl) (by kernel_rfl) (fun _ _ _ h => h) (Or.inl ⟨by rfl, ?g19qy3⟩) (by assumption) ?g19qr3
              case g19qy3 => first | (intro w hSw; (try dsimp only at hSw); go_simp; done) | (intro w hSw; (try dsimp only at hSw); go_simp; with_reducible rfl)
              case' g19qr3 => try simp only [Act.put, List.setIfInBounds_toArray, List.set_cons_zero, List.set_cons_succ]
              refine wpAnyH_takeL (i := 4) (v := ?g19qv4) rfl (by kernel_rfl) (by kernel_rfl) (by kernel_rfl) (fun _ _ _ h => h) (Or.inl ⟨by rfl, ?g19qy4⟩) (by assumption) ?g19qr4
              case g19qy4 => first | (intro w hSw; (try dsimp only at hSw); go_simp; done) | (intro w hSw; (try dsimp only at hSw); go_simp; with_reducible rfl)
              case' g19qr4 => try simp only [Act.put, List.setIfInBounds_toArray, List.set_cons_zero, List.set_cons_succ]
              refine wpAnyH_takeL (i := 5) (v := ?g19qv5) rfl (by kernel_rfl) (by kernel_rfl) (by kernel_rfl) (fun _ _ _ h => h) (Or.inl ⟨by rfl, ?g19qy5⟩) (by assumption) ?g19qr5
              case g19qy5 => first | (intro w hSw; (try dsimp only at hSw); go_simp; done) | (intro w hSw; (try dsimp only at hSw); go_simp; with_reducible rfl)
              case' g19qr5 => try simp only [Act.put, List.setIfInBounds_toArray, List.set_cons_zero, List.set_cons_succ]
              refine wpAnyH_takeL (i := 6) (v := ?g19qv6) rfl (by kernel_rfl) (by kernel_rfl) (by kernel_rfl) (fun _ _ _ h => h) (Or.inl ⟨by rfl, ?g19qy6⟩) (by assumption) ?g19qr6
              case g19qy6 => first | (intro w hSw; (try dsimp only at hSw); go_simp; done) | (intro w hSw; (try dsimp only at hSw); go_simp; with_reducible rfl)
              case' g19qr6 => try simp only [Act.put, List.setIfInBounds_toArray, List.set_cons_zero, List.set_cons_succ]
              refine wpAnyH_takeL (i := 7) (v := ?g19qv7) rfl (by kernel_rfl) (by kernel_rfl) (by kernel_rfl) (fun _ _ _ h => h) (Or.inl ⟨by rfl, ?g19qy7⟩) (by assumption) ?g19qr7
              case g19qy7 => first | (intro w hSw; (try dsimp only at hSw); go_simp; done) | (intro w hSw; (try dsimp only at hSw); go_simp; with_reducible rfl)
              case' g19qr7 => try simp only [Act.put, List.setIfInBounds_toArray, List.set_cons_zero, List.set_cons_succ]
              refine wpAnyH_takeL (i := 8) (v := ?g19qv8) rfl (by kernel_rfl) (by kernel_rfl) (by kernel_rfl) (fun _ _ _ h => h) (Or.inl ⟨by rfl, ?g19qy8⟩) (by assumption) ?g19qr8
              case g19qy8 => first | (intro w hSw; (try dsimp only at hSw); go_simp; done) | (intro w hSw; (try dsimp only at hSw); go_simp; with_reducible rfl)
              case' g19qr8 => try simp only [Act.put, List.setIfInBounds_toArray, List.set_cons_zero, List.set_cons_succ]
              refine wpAnyH_takeL (i := 9) (v := ?g19qv9) rfl (by kernel_rfl) (by kernel_rfl) (by kernel_rfl) (fun _ _ _ h => h) (Or.inl ⟨by rfl, ?g19qy9⟩) (by assumption) ?g19qr9
              case g19qy9 => first | (intro w hSw; (try dsimp only at hSw); go_simp; done) | (intro w hSw; (try dsimp only at hSw); go_simp; with_reducible rfl)
              case' g19qr9 => try simp only [Act.put, List.setIfInBounds_toArray, List.set_cons_zero, List.set_cons_succ]
              refine wpAnyH_takeL (i := 10) (v := ?g19qv10) rfl (by kernel_rfl) (by kernel_rfl) (by kernel_rfl) (fun _ _ _ h => h) (Or.inl ⟨by rfl, ?g19qy10⟩) (by assumption) ?g19qr10
              case g19qy10 => first | (intro w hSw; (try dsimp only at hSw); go_simp; done) | (intro w hSw; (try dsimp only at hSw); go_simp; with_reducible rfl)
              case' g19qr10 => try simp only [Act.put, List.setIfInBounds_toArray, List.set_cons_zero, List.set_cons_succ]
              refine wpAnyH_takeL (i := 11) (v := ?g19qv11) rfl (by kernel_rfl) (by kernel_rfl) (by kernel_rfl) (fun _ _ _ h => h) (Or.inl ⟨by rfl, ?g19qy11⟩) (by assumption) ?g19qr11
              case g19qy11 => first | (intro w hSw; (try dsimp only at hSw); go_simp; done) | (intro w hSw; (try dsimp only at hSw); go_simp; with_reducible rfl)
              case' g19qr11 => try simp only [Act.put, List.setIfInBounds_toArray, List.set_cons_zero, List.set_cons_succ]
              refine wpAnyH_takeL (i := 12) (v := ?g19qv12) rfl (by kernel_rfl) (by kernel_rfl) (by kernel_rfl) (fun _ _ _ h => h) (Or.inl ⟨by rfl, ?g19qy12⟩) (by assumption) ?g19qr12
              case g19qy12 => first | (intro w hSw; (try dsimp only at hSw); go_simp; done) | (intro w hSw; (try dsimp only at hSw); go_simp; with_reducible rfl)
              case' g19qr12 => try simp only [Act.put, List.setIfInBounds_toArray, List.set_cons_zero, List.set_cons_succ]
              refine wpAnyH_takeL (i := 13) (v := ?g19qv13) rfl (by kernel_rfl) (by kernel_rfl) (by kernel_rfl) (fun _ _ _ h => h) (Or.inl ⟨by rfl, ?g19qy13⟩) (by assumption) ?g19qr13
              case g19qy13 => first | (intro w hSw; (try dsimp only at hSw); go_simp; done) | (intro w hSw; (try dsimp only at hSw); go_simp; with_reducible rfl)
              case' g19qr13 => try simp only [Act.put, List.setIfInBounds_toArray, List.set_cons_zero, List.set_cons_succ]
              refine wpAnyH_takeL (i := 14) (v := ?g19qv14) rfl (by kernel_rfl) (by kernel_rfl) (by kernel_rfl) (fun _ _ _ h => h) (Or.inl ⟨by rfl, ?g19qy14⟩) (by assumption) ?g19qr14
              case g19qy14 => first | (intro w hSw; (try dsimp only at hSw); go_simp; done) | (intro w hSw; (try dsimp only at hSw); go_simp; with_reducible rfl)
              case' g19qr14 => try simp only [Act.put, List.setIfInBounds_toArray, List.set_cons_zero, List.set_cons_succ]
              refine wpAnyH_takeL (i := 15) (v := ?g19qv15) rfl (by kernel_rfl) (by kernel_rfl) (by kernel_rfl) (fun _ _ _ h => h) (Or.inl ⟨by rfl, ?g19qy15⟩) (by assumption) ?g19qr15
              case g19qy15 => first | (intro w hSw; (try dsimp only at hSw); go_simp; done) | (intro w hSw; (try dsimp only at hSw); go_simp; with_reducible rfl)
              case' g19qr15 => try simp only [Act.put, List.setIfInBounds_toArray, List.set_cons_zero, List.set_cons_succ]
              refine wpAnyH_takeL (i := 16) (v := ?g19qv16) rfl (by kernel_rfl) (by kernel_rfl) (by kernel_rfl) (fun _ _ _ h => h) (Or.inl ⟨by rfl, ?g19qy16⟩) (by assumption) ?g19qr16
              case g19qy16 => first | (intro w hSw; (try dsimp only at hSw); go_simp; done) | (intro w hSw; (try dsimp only at hSw); go_simp; with_reducible rfl)
              case' g19qr16 => try simp only [Act.put, List.setIfInBounds_toArray, List.set_cons_zero, List.set_cons_succ]
              refine wpAnyH_done (by kernel_rfl) ?_ _
              clear hsub
              go_wp2_with fail
              refine (find6_any _ Ay ny cy syms (HY.out.ext (Ext.refl _).drew) sym).mono ?_
              rintro e w1 ⟨hx1, rfl⟩
              have HX1 := hid (HE0.out.trans hx1.drew_left)
              clear hx1
              obtain ⟨q, hq⟩ : ∃ q, findSy syms sym.data.toList = q := ⟨_, rfl⟩
              rw [hq] at HFN ⊢
              obtain ⟨y, hy⟩ : ∃ y, q.getD Sy.zero = y := ⟨_, rfl⟩
              rw [hy]
              clear hq hy
              simp only [syVal]
              cases q with
              | none =>
                obtain rfl : z = 17 := HFN.out
                simp only [Option.isSome_none]
                go_wp2
                go_ret
                first | exact ⟨rfl, HX1.out.alloc _⟩ | exact ⟨rfl, HX1.out⟩
              | some q =>
                obtain rfl : z = 0 := HFN.out
                simp only [Option.isSome_some]
                go_wp2
                go_ret
                first | exact ⟨rfl, HX1.out.alloc _⟩ | exact ⟨rfl, HX1.out⟩
        · go_enter Try.func34, Try.ntmps34
          by_cases h3 : off < 0
          · obtain rfl : z = 7 := by rw [← HZ.out]; exact relOne_off (.inr rfl) rfl HK.out (.inl h3)
            have e3 : decide (off < 0) = true := decide_eq_true h3
            clear h3
            go_wp2_with fail
            clear hW0
            refine wp_region_held_drew (S := (fun w' => w'.cell? ⟨w.heap.size + 1, 1, none⟩ = some (.int .i64 off))) (by kernel_rfl) r1 (fun hSg20q0 => ?_)
            refine wpAnyH_takeL (i := 0) (v := ?g20qv0) rfl (by kernel_rfl) (by kernel_rfl) (by kernel_rfl) (fun _ _ _ h => h) (Or.inl ⟨by rfl, ?g20qy0⟩) (by assumption) ?g20qr0
            case g20qy0 => first | (intro w hSw; (try dsimp only at hSw); go_simp; done) | (intro w hSw; (try dsimp only at hSw); go_simp; with_reducible rfl)
            case' g20qr0 => try simp only [Act.put, List.setIfInBounds_toArray, List.set_cons_zero, List.set_cons_succ]
            refine wpAnyH_takeL (i := 1) (v := ?g20qv1) rfl (by kernel_rfl) (by kernel_rfl) (by kernel_rfl) (fun _ _ _ h => h) (Or.inl ⟨by rfl, ?g20qy1⟩) (by assumption) ?g20qr1
            case g20qy1 => first | (intro w hSw; (try dsimp only at hSw); go_simp; done) | (intro w hSw; (try dsimp only at hSw); go_simp; with_reducible rfl)
            case' g20qr1 => try simp only [Act.put, List.setIfInBounds_toArray, List.set_cons_zero, List.set_cons_succ]
            refine wpAnyH_takeL (i := 2) (v := ?g20qv2) rfl (by kernel_rfl) (by kernel_rfl) (by kernel_rfl) (fun _ _ _ h => h) (Or.inl ⟨by rfl, ?g20qy2⟩) (by assumption) ?g20qr2
            case g20qy2 => first | (intro w hSw; (try dsimp only at hSw); go_simp; done) | (intro w hSw; (try dsimp only at hSw); go_simp; with_reducible rfl)
            case' g20qr2 => try simp only [Act.put, List.setIfInBounds_toArray, List.set_cons_zero, List.set_cons_succ]
            refine wpAnyH_takeL (i := 3) (v := ?g20qv3) rfl (by kernel_rfl) (by kernel_rfl) (by kernel_rfl) (fun _ _ _ h => h) (Or.inl ⟨by rfl, ?g20qy3⟩) (by assumption) ?g20qr3
            case g20qy3 => first | (intro w hSw; (try dsimp only at hSw); go_simp; done) | (intro w hSw; (try dsimp only at hSw); go_simp; with_reducible rfl)
            case' g20qr3 => try simp only [Act.put, List.setIfInBounds_toArray, List.set_cons_zero, List.set_cons_succ]
            refine wpAnyH_takeL (i := 4) (v := undef) rfl (by kernel_rfl) (by kernel_rfl) (by kernel_rfl) (fun _ _ _ h => h) (Or.inr ⟨by rfl, rfl⟩) (by assumption) ?g20qr4
            case' g20qr4 => try simp only [Act.put, List.setIfInBounds_toArray, List.set_cons_zero, List.set_cons_succ]
            refine wpAnyH_takeL (i := 5) (v := undef) rfl (by kernel_rfl) (by kernel_rfl) (by kernel_rfl) (fun _ _ _ h => h) (Or.inr ⟨by rfl, rfl⟩) (by assumption) ?g20qr5
            case' g20qr5 => try simp only [Act.put, List.setIfInBounds_toArray, List.set_cons_zero, List.set_cons_succ]
            refine wpAnyH_takeL (i := 6) (v := undef) rfl (by kernel_rfl) (by kernel_rfl) (by kernel_rfl) (fun _ _ _ h => h) (Or.inr ⟨by rfl, rfl⟩) (by assumption) ?g20qr6
            case' g20qr6 => try simp only [Act.put, List.setIfInBounds_toArray, List.set_cons_zero, List.set_cons_succ]
            refine wpAnyH_takeL (i := 7) (v := undef) rfl (by kernel_rfl) (by kernel_rfl) (by kernel_rfl) (fun _ _ _ h => h) (Or.inr ⟨by rfl, rfl⟩) (by assumption) ?g20qr7
            case' g20qr7 => try simp only [Act.put, List.setIfInBounds_toArray, List.set_cons_zero, List.set_cons_succ]
            refine wpAnyH_takeL (i := 8) (v := undef) rfl (by kernel_rfl) (by kernel_rfl) (by kernel_rfl) (fun _ _ _ h => h) (Or.inr ⟨by rfl, rfl⟩) (by assumption) ?g20qr8
            case' g20qr8 => try simp only [Act.put, List.setIfInBounds_toArray, List.set_cons_zero, List.set_cons_succ]
            refine wpAnyH_takeL (i := 9) (v := undef) rfl (by kernel_rfl) (by kernel_rfl) (by kernel_rfl) (fun _ _ _ h => h) (Or.inr ⟨by rfl, rfl⟩) (by assumption) ?g20qr9
            case' g20qr9 => try simp only [Act.put, List.setIfInBounds_toArray, List.set_cons_zero, List.set_cons_succ]
            refine wpAnyH_takeL (i := 10) (v := undef) rfl (by kernel_rfl) (by kernel_rfl) (by kernel_rfl) (fun _ _ _ h => h) (Or.inr ⟨by rfl, rfl⟩) (by assumption) ?g20qr10
            case' g20qr10 => try simp only [Act.put, List.setIfInBounds_toArray, List.set_cons_zero, List.set_cons_succ]
            refine wpAnyH_takeL (i := 11) (v := undef) rfl (by kernel_rfl) (by kernel_rfl) (by kernel_rfl) (fun _ _ _ h => h) (Or.inr ⟨by rfl, rfl⟩) (by assumption) ?g20qr11
            case' g20qr11 => try simp only [Act.put, List.setIfInBounds_toArray, List.set_cons_zero, List.set_cons_succ]
            refine wpAnyH_takeL (i := 12) (v := undef) rfl (by kernel_rfl) (by kernel_rfl) (by kernel_rfl) (fun _ _ _ h => h) (Or.inr ⟨by rfl, rfl⟩) (by assumption) ?g20qr12
            case' g20qr12 => try simp only [Act.put, List.setIfInBounds_toArray, List.set_cons_zero, List.set_cons_succ]
            refine wpAnyH_takeL (i := 13) (v := undef) rfl (by kernel_rfl) (by kernel_rfl) (by kernel_rfl) (fun _ _ _ h => h) (Or.inr ⟨by rfl, rfl⟩) (by assumption) ?g20qr13
            case' g20qr13 => try simp only [Act.put, List.setIfInBounds_toArray, List.set_cons_zero, List.set_cons_succ]
            refine wpAnyH_takeL (i := 14) (v := undef) rfl (by kernel_rfl) (by kernel_rfl) (by kernel_rfl) (fun _ _ _ h => h) (Or.inr ⟨by rfl, rfl⟩) (by assumption) ?g20qr14
            case' g20qr14 => try simp only [Act.put, List.setIfInBounds_toArray, List.set_cons_zero, List.set_cons_succ]
            refine wpAnyH_takeL (i := 15) (v := undef) rfl (by kernel_rfl) (by kernel_rfl) (by kernel_rfl) (fun _ _ _ h => h) (Or.inr ⟨by rfl, rfl⟩) (by assumption) ?g20qr15
            case' g20qr15 => try simp only [Act.put, List.setIfInBounds_toArray, List.set_cons_zero, List.set_cons_succ]
            refine wpAnyH_takeL (i := 16) (v := ?g20qv16) rfl (by kernel_rfl) (by kernel_rfl) (by kernel_rfl) (fun _ _ _ h => h) (Or.inl ⟨by rfl, ?g20qy16⟩) (by assumption) ?g20qr16
            case g20qy16 => first | (intro w hSw; (try dsimp only at hSw); go_simp; done) | (intro w hSw; (try dsimp only at hSw); go_simp; with_reducible rfl)
            case' g20qr16 => try simp only [Act.put, List.setIfInBounds_toArray, List.set_cons_zero, List.set_cons_succ]
            refine wpAnyH_done (by kernel_rfl) ?_ _
            go_wp2
            go_ret
            exact ⟨rfl, HE0.out.drew⟩
          · have e3 : decide (off < 0) = false := decide_eq_false h3
            have hsub : IntKind.i64.wrap ((s.data.length : Int) - 4) = (s.data.length : Int) - 4 := IntWalk.i64_in _ (by omega)
            by_cases h4 : (s.data.length : Int) - 4 < off
            · obtain rfl : z = 7 := by rw [← HZ.out]; exact relOne_off (.inr rfl) rfl HK.out (.inr h4)
              have e4 : decide ((s.data.length : Int) - 4 < off) = true := decide_eq_true h4
              clear h3 h4 hdl
              go_wp2_with fail
              clear hW0
              refine wp_region_held_drew (S := (fun w' => w'.cell? ⟨w.heap.size + 1, 1, none⟩ = some (.int .i64 off) ∧ w'.cell? ⟨w.heap.size + 1, 0, none⟩ = some (.int .i64 (k : Int)) ∧ w'.cell? ⟨w.heap.size, 1, none⟩ = some (.slice (some ⟨b, o5, none⟩) ns cs) ∧ w'.cell? ⟨b, o5 + k * 5 + 2, none⟩ = some (.slice dA s.data.length dc))) (by kernel_rfl) ⟨r1, r0, o1, c2⟩ (fun hSg21q0 => ?_)
              refine wpAnyH_takeL (i := 0) (v := ?g21qv0) rfl (by kernel_rfl) (by kernel_rfl) (by kernel_rfl) (fun _ _ _ h => h) (Or.inl ⟨by rfl, ?g21qy0⟩) (by assumption) ?g21qr0
              case g21qy0 => first | (intro w hSw; (try dsimp only at hSw); go_simp; done) | (intro w hSw; (try dsimp only at hSw); go_simp; with_reducible rfl)
              case' g21qr0 => try simp only [Act.put, List.setIfInBounds_toArray, List.set_cons_zero, List.set_cons_succ]
              refine wpAnyH_takeL (i := 1) (v := ?g21qv1) rfl (by kernel_rfl) (by kernel_rfl) (by kernel_rfl) (fun _ _ _ h => h) (Or.inl ⟨by rfl, ?g21qy1⟩) (by assumption) ?g21qr1
              case g21qy1 => first | (intro w hSw; (try dsimp only at hSw); go_simp; done) | (intro w hSw; (try dsimp only at hSw); go_simp; with_reducible rfl)
              case' g21qr1 => try simp only [Act.put, List.setIfInBounds_toArray, List.set_cons_zero, List.set_cons_succ]
              refine wpAnyH_takeL (i := 2) (v := ?g21qv2) rfl (by kernel_rfl) (by kernel_rfl) (by kernel_rfl) (fun _ _ _ h => h) (Or.inl ⟨by rfl, ?g21qy2⟩) (by assumption) ?g21qr2
              case g21qy2 => first | (intro w hSw; (try dsimp only at hSw); go_simp; done) | (intro w hSw; (try dsimp only at hSw); go_simp; with_reducible rfl)
              case' g21qr2 => try simp only [Act.put, List.setIfInBounds_toArray, List.set_cons_zero, List.set_cons_succ]
              refine wpAnyH_takeL (i := 3) (v := ?g21qv3) rfl (by kernel_rfl) (by kernel_rfl) (by kernel_rfl) (fun _ _ _ h => h) (Or.inl ⟨by rfl, ?g21qy3⟩) (by assumption) ?g21qr3
              case g21qy3 => first | (intro w hSw; (try dsimp only at hSw); go_simp; done) | (intro w hSw; (try dsimp only at hSw); go_simp; with_reducible rfl)
              case' g21qr3 => try simp only [Act.put, List.setIfInBounds_toArray, List.set_cons_zero, List.set_cons_succ]
              refine wpAnyH_takeL (i := 4) (v := ?g21qv4) rfl (by kernel_rfl) (by kernel_rfl) (by kernel_rfl) (fun _ _ _ h => h) (Or.inl ⟨by rfl, ?g21qy4⟩) (by assumption) ?g21qr4
              case g21qy4 => first | (intro w hSw; (try dsimp only at hSw); go_simp; done) | (intro w hSw; (try dsimp only at hSw); go_simp; with_reducible rfl)
              case' g21qr4 => try simp only [Act.put, List.setIfInBounds_toArray, List.set_cons_zero, List.set_cons_succ]
              refine wpAnyH_takeL (i := 5) (v := ?g21qv5) rfl (by kernel_rfl) (by kernel_rfl) (by kernel_rfl) (fun _ _ _ h => h) (Or.inl ⟨by rfl, ?g21qy5⟩) (by assumption) ?g21qr5
              case g21qy5 => first | (intro w hSw; (try dsimp only at hSw); go_simp; done) | (intro w hSw; (try dsimp only at hSw); go_simp; with_reducible rfl)
              case' g21qr5 => try simp only [Act.put, List.setIfInBounds_toArray, List.set_cons_zero, List.set_cons_succ]
              refine wpAnyH_takeL (i := 6) (v := ?g21qv6) rfl (by kernel_rfl) (by kernel_rfl) (by kernel_rfl) (fun _ _ _ h => h) (Or.inl ⟨by rfl, ?g21qy6⟩) (by assumption) ?g21qr6
              case g21qy6 => first | (intro w hSw; (try dsimp only at hSw); go_simp; done) | (intro w hSw; (try dsimp only at hSw); go_simp; with_reducible rfl)
              case' g21qr6 => try simp only [Act.put, List.setIfInBounds_toArray, List.set_cons_zero, List.set_cons_succ]
              refine wpAnyH_takeL (i := 7) (v := ?g21qv7) rfl (by kernel_rfl) (by kernel_rfl) (by kernel_rfl) (fun _ _ _ h => h) (Or.inl ⟨by rfl, ?g21qy7⟩) (by assumption) ?g21qr7
              case g21qy7 => first | (intro w hSw; (try dsimp only at hSw); go_simp; done) | (intro w hSw; (try dsimp only at hSw); go_simp; with_reducible rfl)
              case' g21qr7 => try simp only [Act.put, List.setIfInBounds_toArray, List.set_cons_zero, List.set_cons_succ]
              refine wpAnyH_takeL (i := 8) (v := ?g21qv8) rfl (by kernel_rfl) (by kernel_rfl) (by kernel_rfl) (fun _ _ _ h => h) (Or.inl ⟨by rfl, ?g21qy8⟩) (by assumption) ?g21qr8
              case g21qy8 => first | (intro w hSw; (try dsimp only at hSw); go_simp; done) | (intro w hSw; (try dsimp only at hSw); go_simp; with_reducible rfl)
              case' g21qr8 => try simp only [Act.put, List.setIfInBounds_toArray, List.set_cons_zero, List.set_cons_succ]
              refine wpAnyH_takeL (i := 9) (v := ?g21qv9) rfl (by kernel_rfl) (by kernel_rfl) (by kernel_rfl) (fun _ _ _ h => h) (Or.inl ⟨by rfl, ?g21qy9⟩) (by assumption) ?g21qr9
              case g21qy9 => first | (intro w hSw; (try dsimp only at hSw); go_simp; done) | (intro w hSw; (try dsimp only at hSw); go_simp; with_reducible rfl)
              case' g21qr9 => try simp only [Act.put, List.setIfInBounds_toArray, List.set_cons_zero, List.set_cons_succ]
              refine wpAnyH_takeL (i := 10) (v := ?g21qv10) rfl (by kernel_rfl) (by kernel_rfl) (by kernel_rfl) (fun _ _ _ h => h) (Or.inl ⟨by rfl, ?g21qy10⟩) (by assumption) ?g21qr10
              case g21qy10 => first | (intro w hSw; (try dsimp only at hSw); go_simp; done) | (intro w hSw; (try dsimp only at hSw); go_simp; with_reducible rfl)
              case' g21qr10 => try simp only [Act.put, List.setIfInBounds_toArray, List.set_cons_zero, List.set_cons_succ]
              refine wpAnyH_takeL (i := 11) (v := ?g21qv11) rfl (by kernel_rfl) (by kernel_rfl) (by kernel_rfl) (fun _ _ _ h => h) (Or.inl ⟨by rfl, ?g21qy11⟩) (by assumption) ?g21qr11
              case g21qy11 => first | (intro w hSw; (try dsimp only at hSw); go_simp; done) | (intro w hSw; (try dsimp only at hSw); go_simp; with_reducible rfl)
              case' g21qr11 => try simp only [Act.put, List.setIfInBounds_toArray, List.set_cons_zero, List.set_cons_succ]
              refine wpAnyH_takeL (i := 12) (v := ?g21qv12) rfl (by kernel_rfl) (by kernel_rfl) (by kernel_rfl) (fun _ _ _ h => h) (Or.inl ⟨by rfl, ?g21qy12⟩) (by assumption) ?g21qr12
              case g21qy12 => first | (intro w hSw; (try dsimp only at hSw); go_simp; done) | (intro w hSw; (try dsimp only at hSw); go_simp; with_reducible rfl)
              case' g21qr12 => try simp only [Act.put, List.setIfInBounds_toArray, List.set_cons_zero, List.set_cons_succ]
              refine wpAnyH_takeL (i := 13) (v := ?g21qv13) rfl (by kernel_rfl) (by kernel_rfl) (by kernel_rfl) (fun _ _ _ h => h) (Or.inl ⟨by rfl, ?g21qy13⟩) (by assumption) ?g21qr13
              case g21qy13 => first | (intro w hSw; (try dsimp only at hSw); go_simp; done) | (intro w hSw; (try dsimp only at hSw); go_simp; with_reducible rfl)
              case' g21qr13 => try simp only [Act.put, List.setIfInBounds_toArray, List.set_cons_zero, List.set_cons_succ]
              refine wpAnyH_takeL (i := 14) (v := ?g21qv14) rfl (by kernel_rfl) (by kernel_rfl) (by kernel_rfl) (fun _ _ _ h => h) (Or.inl ⟨by rfl, ?g21qy14⟩) (by assumption) ?g21qr14
              case g21qy14 => first | (intro w hSw; (try dsimp only at hSw); go_simp; done) | (intro w hSw; (try dsimp only at hSw); go_simp; with_reducible rfl)
              case' g21qr14 => try simp only [Act.put, List.setIfInBounds_toArray, List.set_cons_zero, List.set_cons_succ]
              refine wpAnyH_takeL (i := 15) (v := ?g21qv15) rfl (by kernel_rfl) (by kernel_rfl) (by kernel_rfl) (fun _ _ _ h => h) (Or.inl ⟨by rfl, ?g21qy15⟩) (by assumption) ?g21qr15
              case g21qy15 => first | (intro w hSw; (try dsimp only at hSw); go_simp; done) | (intro w hSw; (try dsimp only at hSw); go_simp; with_reducible rfl)
              case' g21qr15 => try simp only [Act.put, List.setIfInBounds_toArray, List.set_cons_zero, List.set_cons_succ]
              refine wpAnyH_takeL (i := 16) (v := ?g21qv16) rfl (by kernel_rfl) (by kernel_rfl) (by kernel_rfl) (fun _ _ _ h => h) (Or.inl ⟨by rfl, ?g21qy16⟩) (by assumption) ?g21qr16
              case g21qy16 => first | (intro w hSw; (try dsimp only at hSw); go_simp; done) | (intro w hSw; (try dsimp only at hSw); go_simp; with_reducible rfl)
              case' g21qr16 => try simp only [Act.put, List.setIfInBounds_toArray, List.set_cons_zero, List.set_cons_succ]
              refine wpAnyH_done (by kernel_rfl) ?_ _
              go_wp2
              go_ret
              exact ⟨rfl, HE0.out.drew⟩
            · have e4 : decide ((s.data.length : Int) - 4 < off) = false := decide_eq_false h4
              have HFN : Hid (z = if (findSy syms sym.data.toList).isSome then 0 else 17) := hid (by rw [← HZ.out]; exact relOne_fin (.inr rfl) rfl HK.out (fun h => h.elim h3 h4) rfl)
              clear h3 h4 hdl
              go_wp2_with fail
              clear hW0
              refine wp_region_held_drew (S := (fun w' => w'.cell? ⟨w.heap.size + 1, 1, none⟩ = some (.int .i64 off) ∧ w'.cell? ⟨w.heap.size + 1, 0, none⟩ = some (.int .i64 (k : Int)) ∧ w'.cell? ⟨w.heap.size, 1, none⟩ = some (.slice (some ⟨b, o5, none⟩) ns cs) ∧ w'.cell? ⟨b, o5 + k * 5 + 2, none⟩ = some (.slice dA s.data.length dc))) (by kernel_rfl) ⟨r1, r0, o1, c2⟩ (fun hSg22q0 => ?_)
              refine wpAnyH_takeL (i := 0) (v := ?g22qv0) rfl (by kernel_rfl) (by kernel_rfl) (by kernel_rfl) (fun _ _ _ h => h) (Or.inl ⟨by rfl, ?g22qy0⟩) (by assumption) ?g22qr0
              case g22qy0 => first | (intro w hSw; (try dsimp only at hSw); go_simp; done) | (intro w hSw; (try dsimp only at hSw); go_simp; with_reducible rfl)
              case' g22qr0 => try simp only [Act.put, List.setIfInBounds_toArray, List.set_cons_zero, List.set_cons_succ]
              refine wpAnyH_takeL (i := 1) (v := ?g22qv1) rfl (by kernel_rfl) (by kernel_rfl) (by kernel_rfl) (fun _ _ _ h => h) (Or.inl ⟨by rfl, ?g22qy1⟩) (by assumption) ?g22qr1
              case g22qy1 => first | (intro w hSw; (try dsimp only at hSw); go_simp; done) | (intro w hSw; (try dsimp only at hSw); go_simp; with_reducible rfl)
              case' g22qr1 => try simp only [Act.put, List.setIfInBounds_toArray, List.set_cons_zero, List.set_cons_succ]
              refine wpAnyH_takeL (i := 2) (v := ?g22qv2) rfl (by kernel_rfl) (by kernel_rfl) (by kernel_rfl) (fun _ _ _ h => h) (Or.inl ⟨by rfl, ?g22qy2⟩) (by assumption) ?g22qr2
              case g22qy2 => first | (intro w hSw; (try dsimp only at hSw); go_simp; done) | (intro w hSw; (try dsimp only at hSw); go_simp; with_reducible rfl)
              case' g22qr2 => try simp only [Act.put, List.setIfInBounds_toArray, List.set_cons_zero, List.set_cons_succ]
              refine wpAnyH_takeL (i := 3) (v := ?g22qv3) rfl (by kernel_rfl) (by kernel_rfl) (by kernel_rfl) (fun _ _ _ h => h) (Or.inl ⟨by rfl, ?g22qy3⟩) (by assumption) ?g22qr3
              case g22qy3 => first | (intro w hSw; (try dsimp only at hSw); go_simp; done) | (intro w hSw; (try dsimp only at hSw); go_simp; with_reducible rfl)
              case' g22qr3 => try simp only [Act.put, List.setIfInBounds_toArray, List.set_cons_zero, List.set_cons_succ]
              refine wpAnyH_takeL (i := 4) (v := ?g22qv4) rfl (by kernel_rfl) (by kernel_rfl) (by kernel_rfl) (fun _ _ _ h => h) (Or.inl ⟨by rfl, ?g22qy4⟩) (by assumption) ?g22qr4
              case g22qy4 => first | (intro w hSw; (try dsimp only at hSw); go_simp; done) | (intro w hSw; (try dsimp only at hSw); go_simp; with_reducible rfl)
              case' g22qr4 => try simp only [Act.put, List.setIfInBounds_toArray, List.set_cons_zero, List.set_cons_succ]
              refine wpAnyH_takeL (i := 5) (v := ?g22qv5) rfl (by kernel_rfl) (by kernel_rfl) (by kernel_rfl) (fun _ _ _ h => h) (Or.inl ⟨by rfl, ?g22qy5⟩) (by assumption) ?g22qr5
              case g22qy5 => first | (intro w hSw; (try dsimp only at hSw); go_simp; done) | (intro w hSw; (try dsimp only at hSw); go_simp; with_reducible rfl)
              case' g22qr5 => try simp only [Act.put, List.setIfInBounds_toArray, List.set_cons_zero, List.set_cons_succ]
              refine wpAnyH_takeL (i := 6) (v := ?g22qv6) rfl (by kernel_rfl) (by kernel_rfl) (by kernel_rfl) (fun _ _ _ h => h) (Or.inl ⟨by rfl, ?g22qy6⟩) (by assumption) ?g22qr6
              case g22qy6 => first | (intro w hSw; (try dsimp only at hSw); go_simp; done) | (intro w hSw; (try dsimp only at hSw); go_simp; with_reducible rfl)
              case' g22qr6 => try simp only [Act.put, List.setIfInBounds_toArray, List.set_cons_zero, List.set_cons_succ]
              refine wpAnyH_takeL (i := 7) (v := ?g22qv7) rfl (by kernel_rfl) (by kernel_rfl) (by kernel_rfl) (fun _ _ _ h => h) (Or.inl ⟨by rfl, ?g22qy7⟩) (by assumption) ?g22qr7
              case g22qy7 => first | (intro w hSw; (try dsimp only at hSw); go_simp; done) | (intro w hSw; (try dsimp only at hSw); go_simp; with_reducible rfl)
              case' g22qr7 => try simp only [Act.put, List.setIfInBounds_toArray, List.set_cons_zero, List.set_cons_succ]
              refine wpAnyH_takeL (i := 8) (v := ?g22qv8) rfl (by kernel_rfl) (by kernel_rfl) (by kernel_rfl) (fun _ _ _ h => h) (Or.inl ⟨by rfl, ?g22qy8⟩) (by assumption) ?g22qr8
              case g22qy8 => first | (intro w hSw; (try dsimp only at hSw); go_simp; done) | (intro w hSw; (try dsimp only at hSw); go_simp; with_reducible rfl)
              case' g22qr8 => try simp only [Act.put, List.setIfInBounds_toArray, List.set_cons_zero, List.set_cons_succ]
              refine wpAnyH_takeL (i := 9) (v := ?g22qv9) rfl (by kernel_rfl) (by kernel_rfl) (by kernel_rfl) (fun _ _ _ h => h) (Or.inl ⟨by rfl, ?g22qy9⟩) (by assumption) ?g22qr9
              case g22qy9 => first | (intro w hSw; (try dsimp only at hSw); go_simp; done) | (intro w hSw; (try dsimp only at hSw); go_simp; with_reducible rfl)
              case' g22qr9 => try simp only [Act.put, List.setIfInBounds_toArray, List.set_cons_zero, List.set_cons_succ]
              refine wpAnyH_takeL (i := 10) (v := ?g22qv10) rfl (by kernel_rfl) (by kernel_rfl) (by kernel_rfl) (fun _ _ _ h => h) (Or.inl ⟨by rfl, ?g22qy10⟩) (by assumption) ?g22qr10
              case g22qy10 => first | (intro w hSw; (try dsimp only at hSw); go_simp; done) | (intro w hSw; (try dsimp only at hSw); go_simp; with_reducible rfl)
              case' g22qr10 => try simp only [Act.put, List.setIfInBounds_toArray, List.set_cons_zero, List.set_cons_succ]
              refine wpAnyH_takeL (i := 11) (v := ?g22qv11) rfl (by kernel_rfl) (by kernel_rfl) (by kernel_rfl) (fun _ _ _ h => h) (Or.inl ⟨by rfl, ?g22qy11⟩) (by assumption) ?g22qr11
              case g22qy11 => first | (intro w hSw; (try dsimp only at hSw); go_simp; done) | (intro w hSw; (try dsimp only at hSw); go_simp; with_reducible rfl)
              case' g22qr11 => try simp only [Act.put, List.setIfInBounds_toArray, List.set_cons_zero, List.set_cons_succ]
              refine wpAnyH_takeL (i := 12) (v := ?g22qv12) rfl (by kernel_rfl) (by kernel_rfl) (by kernel_rfl) (fun _ _ _ h => h) (Or.inl ⟨by rfl, ?g22qy12⟩) (by assumption) ?g22qr12
              case g22qy12 => first | (intro w hSw; (try dsimp only at hSw); go_simp; done) | (intro w hSw; (try dsimp only at hSw); go_simp; with_reducible rfl)
              case' g22qr12 => try simp only [Act.put, List.setIfInBounds_toArray, List.set_cons_zero, List.set_cons_succ]
              refine wpAnyH_takeL (i := 13) (v := ?g22qv13) rfl (by kernel_rfl) (by kernel_rfl) (by kernel_rfl) (fun _ _ _ h => h) (Or.inl ⟨by rfl, ?g22qy13⟩) (by assumption) ?g22qr13
              case g22qy13 => first | (intro w hSw; (try dsimp only at hSw); go_simp; done) | (intro w hSw; (try dsimp only at hSw); go_simp; with_reducible rfl)
              case' g22qr13 => try simp only [Act.put, List.setIfInBounds_toArray, List.set_cons_zero, List.set_cons_succ]
              refine wpAnyH_takeL (i := 14) (v := ?g22qv14) rfl (by kernel_rfl) (by kernel_rfl) (by kernel_rfl) (fun _ _ _ h => h) (Or.inl ⟨by rfl, ?g22qy14⟩) (by assumption) ?g22qr14
              case g22qy14 => first | (intro w hSw; (try dsimp only at hSw); go_simp; done) | (intro w hSw; (try dsimp only at hSw); go_simp; with_reducible rfl)
              case' g22qr14 => try simp only [Act.put, List.setIfInBounds_toArray, List.set_cons_zero, List.set_cons_succ]
              refine wpAnyH_takeL (i := 15) (v := ?g22qv15) rfl (by kernel_rfl) (by kernel_rfl) (by kernel_rfl) (fun _ _ _ h => h) (Or.inl ⟨by rfl, ?g22qy15⟩) (by assumption) ?g22qr15
              case g22qy15 => first | (intro w hSw; (try dsimp only at hSw); go_simp; done) | (intro w hSw; (try dsimp only at hSw); go_simp; with_reducible rfl)
              case' g22qr15 => try simp only [Act.put, List.setIfInBounds_toArray, List.set_cons_zero, List.set_cons_succ]
              refine wpAnyH_takeL (i := 16) (v := ?g22qv16) rfl (by kernel_rfl) (by kernel_rfl) (by kernel_rfl) (fun _ _ _ h => h) (Or.inl ⟨by rfl, ?g22qy16⟩) (by assumption) ?g22qr16
              case g22qy16 => first | (intro w hSw; (try dsimp only at hSw); go_simp; done) | (intro w hSw; (try dsimp only at hSw); go_simp; with_reducible rfl)
              case' g22qr16 => try simp only [Act.put, List.setIfInBounds_toArray, List.set_cons_zero, List.set_cons_succ]
              refine wpAnyH_done (by kernel_rfl) ?_ _
              clear hsub
              go_wp2_with fail
              refine (find6_any _ Ay ny cy syms (HY.out.ext (Ext.refl _).drew) sym).mono ?_
              rintro e w1 ⟨hx1, rfl⟩
              have HX1 := hid (HE0.out.trans hx1.drew_left)
              clear hx1
              obtain ⟨q, hq⟩ : ∃ q, findSy syms sym.data.toList = q := ⟨_, rfl⟩
              rw [hq] at HFN ⊢
              obtain ⟨y, hy⟩ : ∃ y, q.getD Sy.zero = y := ⟨_, rfl⟩
              rw [hy]
              clear hq hy
              simp only [syVal]
              cases q with
              | none =>
                obtain rfl : z = 17 := HFN.out
                simp only [Option.isSome_none]
                go_wp2
                go_ret
                first | exact ⟨rfl, HX1.out.alloc _⟩ | exact ⟨rfl, HX1.out⟩
              | some q =>
                obtain rfl : z = 0 := HFN.out
                simp only [Option.isSome_some]
                go_wp2
                go_ret
                first | exact ⟨rfl, HX1.out.alloc _⟩ | exact ⟨rfl, HX1.out⟩
  · obtain rfl : z = 2 := by rw [← HZ.out]; exact relOne_arg (.inl ⟨fun h => h1 (.inl h), fun h => h1 (.inr h)⟩)
    have e1 : (kd != 1) = true := by simp; omega
    have e2 : (kd != 2) = true := by simp; omega
    clear h1
    go_enter Try.func34, Try.ntmps34
    go_wp2
    go_ret
    exact ⟨rfl, HE0.out⟩
end Go.Proofs.Ytnlofhbimfcejaa

namespace Go.Proofs.Ytnlofhbimfcejaa
open Go.RowKit Go.Deco
set_option linter.unusedSimpArgs false
set_option linter.unusedVariables false

set_option maxRecDepth 100000 in
set_option maxHeartbeats 1000000 in
theorem share7_any (w : World) (sa fa ka da st ft kt dt : Int) (ya yt : ByteArray) (a1 : 0 ≤ fa) (a2 : fa ≤ 65536) (t1 : 0 ≤ ft) (t2 : ft ≤ 65536) :
    Calls Try.prog 35 #[.agg #[.int .i64 sa, .int .i64 fa, .int .i64 ka, .string ya, .int .i32 da], .agg #[.int .i64 st, .int .i64 ft, .int .i64 kt, .string yt, .int .i32 dt]] w (BoolTo w (shareB ⟨sa, fa, ka, ya, da⟩ ⟨st, ft, kt, yt, dt⟩)) := by
  obtain ⟨z, hz⟩ : ∃ z, shareB ⟨sa, fa, ka, ya, da⟩ ⟨st, ft, kt, yt, dt⟩ = z := ⟨_, rfl⟩
  rw [hz]
  unfold shareB at hz
  dsimp only at hz
  have hx : Ext w ((w.alloc (.cells #[.int .i64 sa, .int .i64 fa, .int .i64 ka, .string ya, .int .i32 da] 36)).alloc (.cells #[.int .i64 st, .int .i64 ft, .int .i64 kt, .string yt, .int .i32 dt] 36)) := ((Ext.refl w).alloc _).alloc _
  have HX := hid hx
  clear hx
  by_cases q1 : sa = st
  · by_cases q2 : fa < ft + 4
    · by_cases q3 : ft < fa + 4
      · rw [decide_eq_true q1, decide_eq_true q2, decide_eq_true q3] at hz
        obtain rfl : true = z := hz
        have p1 : (sa == st) = true := by simpa using q1
        clear q1
        go_enter Try.func35, Try.ntmps35
        go_wp2
        go_ret
        exact ⟨rfl, HX.out⟩
      · rw [decide_eq_true q1, decide_eq_true q2, decide_eq_false q3] at hz
        obtain rfl : false = z := hz
        have p1 : (sa == st) = true := by simpa using q1
        clear q1
        go_enter Try.func35, Try.ntmps35
        go_wp2
        go_ret
        exact ⟨rfl, HX.out⟩
    · rw [decide_eq_false q2, Bool.false_and, Bool.and_false] at hz
      subst hz
      have p1 : (sa == st) = true := by simpa using q1
      clear q1
      go_enter Try.func35, Try.ntmps35
      go_wp2
      go_ret
      exact ⟨rfl, HX.out⟩
  · rw [decide_eq_false q1, Bool.false_and] at hz
    subst hz
    have p1 : (sa == st) = false := by simpa using q1
    clear q1
    go_enter Try.func35, Try.ntmps35
    go_wp2
    go_ret
    exact ⟨rfl, HX.out⟩

set_option maxRecDepth 100000 in
set_option maxHeartbeats 4000000 in
theorem check7_any (w : World) (o : Ob) (As Ay Ar : Option Addr) (ns cs ny cy nr cr : Nat) (hs : Sl secR w All (.slice As ns cs) o.secs) (hy : Sl symR w All (.slice Ay ny cy) o.syms) (hr : Sl relR w All (.slice Ar nr cr) o.rels) :
    Calls Try.prog 13 #[.agg #[.int .u32 o.entry, .slice As ns cs, .slice Ay ny cy, .slice Ar nr cr]] w (ErrIs w (obCheck o)) := by
  obtain ⟨z, hz⟩ : ∃ z, obCheck o = z := ⟨_, rfl⟩
  rw [hz]
  have HZ := hid hz
  have hln := hr.len
  have hrc := hr.cap
  obtain ⟨en, hen⟩ : ∃ en, o.entry = en := ⟨_, rfl⟩
  rw [hen]
  clear hz hen
  obtain ⟨W0, hW0⟩ : ∃ W0, w.alloc (.cells #[.int .u32 en, .slice As ns cs, .slice Ay ny cy, .slice Ar nr cr] 27) = W0 := ⟨_, rfl⟩
  have hE0 : Ext w W0 := by rw [← hW0]; exact (Ext.refl w).alloc _
  have o0 : W0.cell? ⟨w.heap.size, 0, none⟩ = some (.int .u32 en) := by rw [← hW0]; simp [go_sem]
  have o1 : W0.cell? ⟨w.heap.size, 1, none⟩ = some (.slice As ns cs) := by rw [← hW0]; simp [go_sem]
  have o2 : W0.cell? ⟨w.heap.size, 2, none⟩ = some (.slice Ay ny cy) := by rw [← hW0]; simp [go_sem]
  have o3 : W0.cell? ⟨w.heap.size, 3, none⟩ = some (.slice Ar nr cr) := by rw [← hW0]; simp [go_sem]
  have HO := hid (And.intro o0 (And.intro o1 (And.intro o2 o3)))
  have HE0 := hid hE0
  have HS := hid (hs.ext hE0)
  have HY := hid (hy.ext hE0)
  have HR := hid (hr.ext hE0)
  have HLN := hid hln
  clear hE0 hs hy hr hln o0 o2 o3
  go_enter Try.func13, Try.ntmps13
  go_wp2_with fail
  clear hW0 o1
  refine (check5_any W0 As ns cs o.secs HS.out).mono ?_
  rintro e w1 ⟨rfl, hx1⟩
  have HX1 := hid hx1
  clear hx1
  obtain ⟨q, hq⟩ : ∃ q, secCheck o.secs = q := ⟨_, rfl⟩
  rw [hq]
  have HQ := hid hq
  clear hq
  by_cases h1 : q = 0
  case neg =>
    obtain rfl : z = q := by rw [← HZ.out]; exact obCheck_secs HQ.out h1
    have n1 : ((z : Int) != 0) = true := by simpa using h1
    clear h1
    go_wp2
    go_ret
    exact ⟨rfl, HE0.out.trans HX1.out⟩
  subst h1
  have o2 := HX1.out.cell HO.out.2.2.1
  go_wp2_with fail
  clear o2
  refine (check6_any w1 Ay ny cy o.syms (HY.out.ext HX1.out)).mono ?_
  rintro e w2 ⟨rfl, hx2⟩
  have HX2 := hid (HX1.out.trans hx2)
  clear hx2
  obtain ⟨q, hq⟩ : ∃ q, symCheck o.syms = q := ⟨_, rfl⟩
  rw [hq]
  have HQ2 := hid hq
  clear hq
  by_cases h1 : q = 0
  case neg =>
    obtain rfl : z = q := by rw [← HZ.out]; exact obCheck_syms HQ.out HQ2.out h1
    have n1 : ((z : Int) != 0) = true := by simpa using h1
    clear h1
    go_wp2
    go_ret
    exact ⟨rfl, HE0.out.trans HX2.out⟩
  subst h1
  have o3 := HX2.out.cell HO.out.2.2.2
  by_cases hbig : 256 < nr
  · obtain rfl : z = 6 := by rw [← HZ.out]; exact obCheck_many HQ.out HQ2.out (by have := HLN.out; omega)
    go_wp2
    go_ret
    exact ⟨rfl, HE0.out.trans HX2.out⟩
  have HB : Hid (¬ 256 < o.rels.length) := hid (by have := HLN.out; omega)
  go_wp2
  clear o3
  go_loopw [3, 4] (fun er i wr => ∃ k : Nat, k ≤ nr ∧ i = .int .i64 k ∧ er = .int .i64 0 ∧ Hid (Ext W0 wr) ∧ Hid (relsErr o.secs o.syms (o.rels.drop k) = relsErr o.secs o.syms o.rels)) (fun _ i _ => nr - (intOf i).toNat)
  case atStart => exact ⟨0, by omega, rfl, rfl, HX2, hid rfl⟩
  case round =>
    obtain ⟨k, hk, rfl, rfl, HX, HF⟩ := hrel
    obtain ⟨o0, o1, o2, o3⟩ := HO.out
    have o0 := HX.out.cell o0
    have o1 := HX.out.cell o1
    have o2 := HX.out.cell o2
    have o3 := HX.out.cell o3
    by_cases h1 : k < nr
    · obtain ⟨r, hk⟩ : ∃ r, o.rels[k]? = some r := ⟨_, List.getElem?_eq_getElem (by have := HLN.out; omega)⟩
      obtain ⟨b, off, rfl, -, c0, c1, c2, c3, c4⟩ := Sl.rel_at (HR.out.ext HX.out) hk
      have HK := hid hk
      have hcall := fun (W : World) (h : Ext wr W) => one7_any W en As Ay (some ⟨b, off, none⟩) ns cs ny cy nr cr o.secs o.syms ((HS.out.ext HX.out).ext h) ((HY.out.ext HX.out).ext h) r
      obtain ⟨q, hq⟩ : ∃ q, relOne o.secs o.syms r = q := ⟨_, rfl⟩
      have HQ3 := hid hq
      have i1 : (0 : Int) ≤ (k : Int) := by omega
      have i2 : (k : Int) < (nr : Int) := by omega
      clear hk hq
      obtain ⟨sec, of_, kd, sym, add⟩ := r
      dsimp only at c0 c1 c2 c3 c4 hcall
      have HC := hid hcall
      clear hcall
      go_wp2_with fail
      refine wp_region_held_drew (S := (fun w' => w'.cell? ⟨w.heap.size, 0, none⟩ = some (.int .u32 en) ∧ w'.cell? ⟨w.heap.size, 1, none⟩ = some (.slice As ns cs) ∧ w'.cell? ⟨w.heap.size, 2, none⟩ = some (.slice Ay ny cy) ∧ w'.cell? ⟨w.heap.size, 3, none⟩ = some (.slice (some ⟨b, off, none⟩) nr cr) ∧ w'.cell? ⟨b, off + k * 5, none⟩ = some (.int .i64 sec) ∧ w'.cell? ⟨b, off + k * 5 + 1, none⟩ = some (.int .i64 of_) ∧ w'.cell? ⟨b, off + k * 5 + 2, none⟩ = some (.int .i64 kd) ∧ w'.cell? ⟨b, off + k * 5 + 3, none⟩ = some (.string sym) ∧ w'.cell? ⟨b, off + k * 5 + 4, none⟩ = some (.int .i32 add))) (by kernel_rfl) ⟨o0, o1, o2, o3, c0, c1, c2, c3, c4⟩ (fun hSg23q0 => ?_)
      refine wpAnyH_takeL (i := 0) (v := ?g23qv0) rfl (by kernel_rfl) (by kernel_rfl) (by kernel_rfl) (fun _ _ _ h => h) (Or.inl ⟨by rfl, ?g23qy0⟩) (by assumption) ?g23qr0
      case g23qy0 => first | (intro w hSw; (try dsimp only at hSw); go_simp; done) | (intro w hSw; (try dsimp only at hSw); go_simp; with_reducible rfl)
      case' g23qr0 => try simp only [Act.put, List.setIfInBounds_toArray, List.set_cons_zero, List.set_cons_succ]
      refine wpAnyH_takeL (i := 1) (v := ?g23qv1) rfl (by kernel_rfl) (by kernel_rfl) (by kernel_rfl) (fun _ _ _ h => h) (Or.inl ⟨by rfl, ?g23qy1⟩) (by assumption) ?g23qr1
      case g23qy1 => first | (intro w hSw; (try dsimp only at hSw); go_simp; done) | (intro w hSw; (try dsimp only at hSw); go_simp; with_reducible rfl)
      case' g23qr1 => try simp only [Act.put, List.setIfInBounds_toArray, List.set_cons_zero, List.set_cons_succ]
      refine wpAnyH_takeL (i := 2) (v := ?g23qv2) rfl (by kernel_rfl) (by kernel_rfl) (by kernel_rfl) (fun _ _ _ h => h) (Or.inl ⟨by rfl, ?g23qy2⟩) (by assumption) ?g23qr2
      case g23qy2 => first | (intro w hSw; (try dsimp only at hSw); go_simp; done) | (intro w hSw; (try dsimp only at hSw); go_simp; with_reducible rfl)
      case' g23qr2 => try simp only [Act.put, List.setIfInBounds_toArray, List.set_cons_zero, List.set_cons_succ]
      refine wpAnyH_takeL (i := 3) (v := ?g23qv3) rfl (by kernel_rfl) (by kernel_rfl) (by kernel_rfl) (fun _ _ _ h => h) (Or.inl ⟨by rfl, ?g23qy3⟩) (by assumption) ?g23qr3
      case g23qy3 => first | (intro w hSw; (try dsimp only at hSw); go_simp; done) | (intro w hSw; (try dsimp only at hSw); go_simp; with_reducible rfl)
      case' g23qr3 => try simp only [Act.put, List.setIfInBounds_toArray, List.set_cons_zero, List.set_cons_succ]
      refine wpAnyH_takeL (i := 4) (v := ?g23qv4) rfl (by kernel_rfl) (by kernel_rfl) (by kernel_rfl) (fun _ _ _ h => h) (Or.inl ⟨by rfl, ?g23qy4⟩) (by assumption) ?g23qr4
      case g23qy4 => first | (intro w hSw; (try dsimp only at hSw); go_simp; done) | (intro w hSw; (try dsimp only at hSw); go_simp; with_reducible rfl)
      case' g23qr4 => try simp only [Act.put, List.setIfInBounds_toArray, List.set_cons_zero, List.set_cons_succ]
      refine wpAnyH_takeL (i := 5) (v := ?g23qv5) rfl (by kernel_rfl) (by kernel_rfl) (by kernel_rfl) (fun _ _ _ h => h) (Or.inl ⟨by rfl, ?g23qy5⟩) (by assumption) ?g23qr5
      case g23qy5 => first | (intro w hSw; (try dsimp only at hSw); go_simp; done) | (intro w hSw; (try dsimp only at hSw); go_simp; with_reducible rfl)
      case' g23qr5 => try simp only [Act.put, List.setIfInBounds_toArray, List.set_cons_zero, List.set_cons_succ]
      refine wpAnyH_ready (rs := [6]) (by kernel_rfl) (by simp) ?_
      refine AllReadyH.consL rfl (fun K hK => ?_) AllReadyH.nil
      go_simp
      go_at_call 34
      refine (HC.out _ (Ext.refl wr).drew).mono ?_
      rintro e w3 ⟨rfl, hx3⟩
      rw [HQ3.out]
      have HX3 := hid ((Ext.refl wr).drew.trans hx3)
      clear hx3
      refine hK.out _ _ ⟨HX3.out.cell o0, HX3.out.cell o1, HX3.out.cell o2, HX3.out.cell o3, HX3.out.cell c0, HX3.out.cell c1, HX3.out.cell c2, HX3.out.cell c3, HX3.out.cell c4⟩ (fun hSg23q1 => ?_)
      clear hK K
      try simp only [Act.put, List.setIfInBounds_toArray, List.set_cons_zero, List.set_cons_succ]
      refine wpAnyH_takeL (i := 7) (v := ?g23qv7) rfl (by kernel_rfl) (by kernel_rfl) (by kernel_rfl) (fun _ _ _ h => h) (Or.inl ⟨by rfl, ?g23qy7⟩) (by assumption) ?g23qr7
      case g23qy7 => first | (intro w hSw; (try dsimp only at hSw); go_simp; done) | (intro w hSw; (try dsimp only at hSw); go_simp; with_reducible rfl)
      case' g23qr7 => try simp only [Act.put, List.setIfInBounds_toArray, List.set_cons_zero, List.set_cons_succ]
      refine wpAnyH_done (by kernel_rfl) ?_ _
      have HX4 := hid (HX.out.trans HX3.out)
      clear HC c0 c1 c2 c3 c4 o0 o1 o2 o3
      by_cases h2 : q = 0
      case neg =>
        obtain rfl : z = q := by rw [← HZ.out]; exact obCheck_rels HQ.out HQ2.out HB.out (relsErr_hit HK.out HQ3.out h2 HF.out) h2
        have n1 : ((z : Int) != 0) = true := by simpa using h2
        clear h2
        go_wp2
        go_ret
        exact ⟨rfl, HE0.out.trans HX4.out⟩
      subst h2
      have HF2 := hid (relsErr_step HK.out HQ3.out HF.out)
      go_wp2
      first
        | go_roundw
        | refine ⟨?rel, ?measure⟩
      case rel => exact ⟨k + 1, by omega, by go_num, rfl, HX4, HF2⟩
      case measure => simp [intOf]; omega
    · obtain rfl : k = nr := by omega
      have hF := HF.out
      rw [show k = o.rels.length by have := HLN.out; omega] at hF
      have hF0 := relsErr_end hF
      have HF0 := hid hF0
      have HOF := hid (off_small HQ.out HF0.out)
      clear hF hF0 HF o0 o1 o2
      obtain ⟨V, hV⟩ : ∃ V, V = wr := ⟨_, rfl⟩
      obtain rfl := hV
      have HXV := HX
      go_wp2
      clear o3
      go_loopw [5] (fun i wr => ∃ k1 : Nat, k1 ≤ k ∧ i = .int .i64 k1 ∧ Hid (Ext W0 wr) ∧ Hid (sharedTo (o.rels.take k1) (o.rels.drop k1) = sharedTo [] o.rels)) (fun i _ => k - (intOf i).toNat)
      case atStart => exact ⟨0, by omega, rfl, HXV, hid rfl⟩
      case round =>
        obtain ⟨k1, hk1, rfl, HX, HD⟩ := hrel
        have o3 := HX.out.cell HO.out.2.2.2
        by_cases h1 : k1 < k
        · obtain ⟨a, ha⟩ : ∃ a, o.rels[k1]? = some a := ⟨_, List.getElem?_eq_getElem (by have := HLN.out; omega)⟩
          have HK := hid ha
          have i1 : (0 : Int) ≤ (k1 : Int) := by omega
          have i2 : (k1 : Int) < (k : Int) := by omega
          clear ha
          obtain ⟨V2, hV2⟩ : ∃ V2, V2 = wr := ⟨_, rfl⟩
          obtain rfl := hV2
          go_wp2
          clear o3
          go_loopw [6] (fun i wr => ∃ j : Nat, j ≤ k1 ∧ i = .int .i64 j ∧ Hid (Ext W0 wr) ∧ Hid ((o.rels.take j).any (fun b => shareB a b) = false)) (fun i _ => k1 - (intOf i).toNat)
          case atStart => exact ⟨0, by omega, rfl, HX, hid (by simp)⟩
          case round =>
            obtain ⟨j, hj, rfl, HX2, HN⟩ := hrel
            have o3 := HX2.out.cell HO.out.2.2.2
            by_cases h2 : j < k1
            · obtain ⟨t, ht⟩ : ∃ t, o.rels[j]? = some t := ⟨_, List.getElem?_eq_getElem (by have := HLN.out; omega)⟩
              have HJ := hid ht
              obtain ⟨b, off, rfl, -, c0, c1, c2, c3, c4⟩ := Sl.rel_at (HR.out.ext HX2.out) HK.out
              obtain ⟨b', off', hA, -, e0, e1, e2, e3, e4⟩ := Sl.rel_at (HR.out.ext HX2.out) HJ.out
              cases hA
              have hao := HOF.out a (List.mem_of_getElem? HK.out)
              have hto := HOF.out t (List.mem_of_getElem? HJ.out)
              have i3 : (0 : Int) ≤ (j : Int) := by omega
              have i4 : (j : Int) < (k : Int) := by omega
              obtain ⟨q, hq⟩ : ∃ q, shareB a t = q := ⟨_, rfl⟩
              have HQ4 := hid hq
              have hcall := fun (W : World) => share7_any W a.sec a.off a.kind a.add t.sec t.off t.kind t.add a.sym t.sym hao.1 hao.2 hto.1 hto.2
              have HC := hid hcall
              clear ht hq hcall hao hto
              obtain ⟨sa, fa, ka, ya, da⟩ := a
              obtain ⟨st, ft, kt, yt, dt⟩ := t
              dsimp only at c0 c1 c2 c3 c4 e0 e1 e2 e3 e4 HC
              go_wp2_with fail
              refine wp_region_held_drew (S := (fun w' => w'.cell? ⟨w.heap.size, 3, none⟩ = some (.slice (some ⟨b, off, none⟩) k cr) ∧ w'.cell? ⟨b, off + k1 * 5, none⟩ = some (.int .i64 sa) ∧ w'.cell? ⟨b, off + k1 * 5 + 1, none⟩ = some (.int .i64 fa) ∧ w'.cell? ⟨b, off + k1 * 5 + 2, none⟩ = some (.int .i64 ka) ∧ w'.cell? ⟨b, off + k1 * 5 + 3, none⟩ = some (.string ya) ∧ w'.cell? ⟨b, off + k1 * 5 + 4, none⟩ = some (.int .i32 da) ∧ w'.cell? ⟨b, off + j * 5, none⟩ = some (.int .i64 st) ∧ w'.cell? ⟨b, off + j * 5 + 1, none⟩ = some (.int .i64 ft) ∧ w'.cell? ⟨b, off + j * 5 + 2, none⟩ = some (.int .i64 kt) ∧ w'.cell? ⟨b, off + j * 5 + 3, none⟩ = some (.string yt) ∧ w'.cell? ⟨b, off + j * 5 + 4, none⟩ = some (.int .i32 dt))) (by kernel_rfl) ⟨o3, c0, c1, c2, c3, c4, e0, e1, e2, e3, e4⟩ (fun hSg24q0 => ?_)
              refine wpAnyH_takeL (i := 0) (v := ?g24qv0) rfl (by kernel_rfl) (by kernel_rfl) (by kernel_rfl) (fun _ _ _ h => h) (Or.inl ⟨by rfl, ?g24qy0⟩) (by assumption) ?g24qr0
              case g24qy0 => first | (intro w hSw; (try dsimp only at hSw); go_simp; done) | (intro w hSw; (try dsimp only at hSw); go_simp; with_reducible rfl)
              case' g24qr0 => try simp only [Act.put, List.setIfInBounds_toArray, List.set_cons_zero, List.set_cons_succ]
              refine wpAnyH_takeL (i := 1) (v := ?g24qv1) rfl (by kernel_rfl) (by kernel_rfl) (by kernel_rfl) (fun _ _ _ h => h) (Or.inl ⟨by rfl, ?g24qy1⟩) (by assumption) ?g24qr1
              case g24qy1 => first | (intro w hSw; (try dsimp only at hSw); go_simp; done) | (intro w hSw; (try dsimp only at hSw); go_simp; with_reducible rfl)
              case' g24qr1 => try simp only [Act.put, List.setIfInBounds_toArray, List.set_cons_zero, List.set_cons_succ]
              refine wpAnyH_takeL (i := 2) (v := ?g24qv2) rfl (by kernel_rfl) (by kernel_rfl) (by kernel_rfl) (fun _ _ _ h => h) (Or.inl ⟨by rfl, ?g24qy2⟩) (by assumption) ?g24qr2
              case g24qy2 => first | (intro w hSw; (try dsimp only at hSw); go_simp; done) | (intro w hSw; (try dsimp only at hSw); go_simp; with_reducible rfl)
              case' g24qr2 => try simp only [Act.put, List.setIfInBounds_toArray, List.set_cons_zero, List.set_cons_succ]
              refine wpAnyH_takeL (i := 3) (v := ?g24qv3) rfl (by kernel_rfl) (by kernel_rfl) (by kernel_rfl) (fun _ _ _ h => h) (Or.inl ⟨by rfl, ?g24qy3⟩) (by assumption) ?g24qr3
              case g24qy3 => first | (intro w hSw; (try dsimp only at hSw); go_simp; done) | (intro w hSw; (try dsimp only at hSw); go_simp; with_reducible rfl)
              case' g24qr3 => try simp only [Act.put, List.setIfInBounds_toArray, List.set_cons_zero, List.set_cons_succ]
              refine wpAnyH_takeL (i := 4) (v := ?g24qv4) rfl (by kernel_rfl) (by kernel_rfl) (by kernel_rfl) (fun _ _ _ h => h) (Or.inl ⟨by rfl, ?g24qy4⟩) (by assumption) ?g24qr4
              case g24qy4 => first | (intro w hSw; (try dsimp only at hSw); go_simp; done) | (intro w hSw; (try dsimp only at hSw); go_simp; with_reducible rfl)
              case' g24qr4 => try simp only [Act.put, List.setIfInBounds_toArray, List.set_cons_zero, List.set_cons_succ]
              refine wpAnyH_takeL (i := 5) (v := ?g24qv5) rfl (by kernel_rfl) (by kernel_rfl) (by kernel_rfl) (fun _ _ _ h => h) (Or.inl ⟨by rfl, ?g24qy5⟩) (by assumption) ?g24qr5
              case g24qy5 => first | (intro w hSw; (try dsimp only at hSw); go_simp; done) | (intro w hSw; (try dsimp only at hSw); go_simp; with_reducible rfl)
              case' g24qr5 => try simp only [Act.put, List.setIfInBounds_toArray, List.set_cons_zero, List.set_cons_succ]
              refine wpAnyH_takeL (i := 6) (v := ?g24qv6) rfl (by kernel_rfl) (by kernel_rfl) (by kernel_rfl) (fun _ _ _ h => h) (Or.inl ⟨by rfl, ?g24qy6⟩) (by assumption) ?g24qr6
              case g24qy6 => first | (intro w hSw; (try dsimp only at hSw); go_simp; done) | (intro w hSw; (try dsimp only at hSw); go_simp; with_reducible rfl)
              case' g24qr6 => try simp only [Act.put, List.setIfInBounds_toArray, List.set_cons_zero, List.set_cons_succ]
              refine wpAnyH_takeL (i := 7) (v := ?g24qv7) rfl (by kernel_rfl) (by kernel_rfl) (by kernel_rfl) (fun _ _ _ h => h) (Or.inl ⟨by rfl, ?g24qy7⟩) (by assumption) ?g24qr7
              case g24qy7 => first | (intro w hSw; (try dsimp only at hSw); go_simp; done) | (intro w hSw; (try dsimp only at hSw); go_simp; with_reducible rfl)
              case' g24qr7 => try simp only [Act.put, List.setIfInBounds_toArray, List.set_cons_zero, List.set_cons_succ]
              refine wpAnyH_takeL (i := 8) (v := ?g24qv8) rfl (by kernel_rfl) (by kernel_rfl) (by kernel_rfl) (fun _ _ _ h => h) (Or.inl ⟨by rfl, ?g24qy8⟩) (by assumption) ?g24qr8
              case g24qy8 => first | (intro w hSw; (try dsimp only at hSw); go_simp; done) | (intro w hSw; (try dsimp only at hSw); go_simp; with_reducible rfl)
              case' g24qr8 => try simp only [Act.put, List.setIfInBounds_toArray, List.set_cons_zero, List.set_cons_succ]
              refine wpAnyH_takeL (i := 9) (v := ?g24qv9) rfl (by kernel_rfl) (by kernel_rfl) (by kernel_rfl) (fun _ _ _ h => h) (Or.inl ⟨by rfl, ?g24qy9⟩) (by assumption) ?g24qr9
              case g24qy9 => first | (intro w hSw; (try dsimp only at hSw); go_simp; done) | (intro w hSw; (try dsimp only at hSw); go_simp; with_reducible rfl)
              case' g24qr9 => try simp only [Act.put, List.setIfInBounds_toArray, List.set_cons_zero, List.set_cons_succ]
              refine wpAnyH_ready (rs := [10]) (by kernel_rfl) (by simp) ?_
              refine AllReadyH.consL rfl (fun K hK => ?_) AllReadyH.nil
              go_simp
              go_at_call 35
              refine (HC.out _).mono ?_
              rintro e w3 ⟨rfl, hx3⟩
              rw [HQ4.out]
              have HX3 := hid ((Ext.refl wr).drew.trans hx3)
              clear hx3
              refine hK.out _ _ ⟨HX3.out.cell o3, HX3.out.cell c0, HX3.out.cell c1, HX3.out.cell c2, HX3.out.cell c3, HX3.out.cell c4, HX3.out.cell e0, HX3.out.cell e1, HX3.out.cell e2, HX3.out.cell e3, HX3.out.cell e4⟩ (fun hSg24q1 => ?_)
              clear hK K
              try simp only [Act.put, List.setIfInBounds_toArray, List.set_cons_zero, List.set_cons_succ]
              refine wpAnyH_done (by kernel_rfl) ?_ _
              have HX4 := hid (HX2.out.trans HX3.out)
              clear HC c0 c1 c2 c3 c4 e0 e1 e2 e3 e4 o3
              cases q with
              | true =>
                have hsh := shared_hit HK.out (any_take_hit HJ.out HQ4.out h2) HD.out
                have hzz := obCheck_last HQ.out HQ2.out HB.out HF0.out hsh
                rw [HZ.out] at hzz
                obtain rfl : z = 10 := hzz
                clear hsh
                go_wp2
                go_ret
                exact ⟨rfl, HE0.out.trans HX4.out⟩
              | false =>
                have HN2 := hid (any_take_step HJ.out HQ4.out HN.out)
                go_wp2
                first
                  | go_roundw
                  | refine ⟨?rel, ?measure⟩
                case rel => exact ⟨j + 1, by omega, by go_num, HX4, HN2⟩
                case measure => simp [intOf]; omega
            · obtain rfl : j = k1 := by omega
              have HD2 := hid (shared_step HK.out HN.out HD.out)
              go_wp2
              first
                | go_roundw
                | refine ⟨?rel, ?measure⟩
              case rel => exact ⟨j + 1, by omega, by go_num, HX2, HD2⟩
              case measure => simp [intOf]; omega
        · obtain rfl : k1 = k := by omega
          have hsh : sharedTo [] o.rels = false := by
            have := HD.out
            rw [show k1 = o.rels.length by have := HLN.out; omega] at this
            exact shared_end this
          have hzz := obCheck_last HQ.out HQ2.out HB.out HF0.out hsh
          rw [HZ.out] at hzz
          obtain rfl : z = 0 := hzz
          clear hsh
          go_wp2
          go_ret
          exact ⟨rfl, HE0.out.trans HX.out⟩
end Go.Proofs.Ytnlofhbimfcejaa
