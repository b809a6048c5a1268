/- isa: Length, Next, Ends; cfg.ends. -/
import Derived.Test.YtolbnhkdpbdhhaaIsaE
namespace Go.Proofs.Ytolbnhkdpbdhhaa
open Go.RowKit Go.Deco
set_option linter.unusedSimpArgs false
set_option linter.unusedVariables false

theorem shapeLen_le (s : Nat) : shapeLen s ≤ 6 := by
  unfold shapeLen
  match s with
  | 0 | 1 | 2 | 3 | 4 | 5 | 6 | 7 | 8 => decide
  | s + 9 => simp
theorem isaLen_le (i : In) : isaLen i ≤ 6 := by
  unfold isaLen
  split
  · exact shapeLen_le _
  · omega

set_option maxRecDepth 100000 in
set_option maxHeartbeats 4000000 in
theorem isalen_any (w : World) (i : In) (hi : InOk i) : Calls Try.prog 60 #[inV i] w fun e w' => e = .returned (.int .i64 (isaLen i)) ∧ Ext w w' := by
  have hck := check3_any
  obtain ⟨W0, hW0⟩ : ∃ W0, w.alloc (.cells #[.int .u32 i.addr, .int .u32 i.imm, .int .i64 i.op, .int .i64 i.form, .int .i64 i.width, .int .i64 i.cc, .int .i64 i.a, .int .i64 i.b, .int .i64 i.size] 61) = W0 := ⟨_, rfl⟩
  have hE : Ext w W0 := by rw [← hW0]; exact (Ext.refl w).alloc _
  have hB : Box9 W0 w.heap.size i := by rw [← hW0]; exact Box9.new w i _
  have HE := hid hE
  have HB := hid hB
  obtain ⟨c0, c1, c2, c3, c4, c5, c6, c7, c8⟩ := hB
  have e : inV i = .agg #[.int .u32 i.addr, .int .u32 i.imm, .int .i64 i.op, .int .i64 i.form, .int .i64 i.width, .int .i64 i.cc, .int .i64 i.a, .int .i64 i.b, .int .i64 i.size] := rfl
  rw [e]
  clear e hE
  have HCK := hid (hck W0 i hi)
  have HI := hid hi
  clear hck hi
  go_enter Try.func60, Try.ntmps60
  go_wp2_with fail
  clear hW0 c0 c1 c2 c3 c4 c5 c6 c7 c8
  refine (HCK.out).mono ?_
  rintro e w1 ⟨hx1, c, s, rfl, hs⟩
  have HX1 := hid (HE.out.trans hx1)
  obtain ⟨er, her⟩ : ∃ er, isaErr i = er := ⟨_, rfl⟩
  rw [her] at hs ⊢
  have HER := hid her
  have HSS := hid hs
  clear hx1 hs her HCK
  by_cases h0 : er = 0
  · subst h0
    have hsh := HSS.out rfl
    have hle := shape_le hsh
    have HSH := hid hsh
    have HLE := hid hle
    clear hsh hle
    go_wp2_with fail
    refine (size_any _ s HLE.out).mono ?_
    rintro e w2 ⟨rfl, hw2⟩
    subst hw2
    go_wp2
    go_ret
    refine ⟨?_, HX1.out⟩
    have : isaLen i = shapeLen s := by
      unfold isaLen
      rw [if_pos HER.out, HSH.out]
      rfl
    rw [this]
    simp
  · have n1 : ((er : Int) != 0) = true := by simpa using h0
    have H0 := hid h0
    clear h0
    go_wp2
    go_ret
    refine ⟨?_, HX1.out⟩
    have : isaLen i = 0 := by
      unfold isaLen
      rw [if_neg (by rw [HER.out]; exact H0.out)]
    rw [this]
    simp

set_option maxRecDepth 100000 in
set_option maxHeartbeats 4000000 in
theorem isanext_any (w : World) (i : In) (hi : InOk i) : Calls Try.prog 48 #[inV i] w fun e w' => e = .returned (.int .u32 (nextI i)) ∧ Ext w w' := by
  have hck := isalen_any
  obtain ⟨W0, hW0⟩ : ∃ W0, w.alloc (.cells #[.int .u32 i.addr, .int .u32 i.imm, .int .i64 i.op, .int .i64 i.form, .int .i64 i.width, .int .i64 i.cc, .int .i64 i.a, .int .i64 i.b, .int .i64 i.size] 61) = W0 := ⟨_, rfl⟩
  have hE : Ext w W0 := by rw [← hW0]; exact (Ext.refl w).alloc _
  have hB : Box9 W0 w.heap.size i := by rw [← hW0]; exact Box9.new w i _
  have HE := hid hE
  have HB := hid hB
  obtain ⟨c0, c1, c2, c3, c4, c5, c6, c7, c8⟩ := hB
  have e : inV i = .agg #[.int .u32 i.addr, .int .u32 i.imm, .int .i64 i.op, .int .i64 i.form, .int .i64 i.width, .int .i64 i.cc, .int .i64 i.a, .int .i64 i.b, .int .i64 i.size] := rfl
  rw [e]
  clear e hE
  have HCK := hid (hck W0.drew i hi)
  clear hck hi
  obtain ⟨n, hn⟩ : ∃ n, isaLen i = n := ⟨_, rfl⟩
  have hn6 := isaLen_le i
  rw [hn] at HCK hn6
  obtain ⟨v, hv⟩ : ∃ v, nextI i = v := ⟨_, rfl⟩
  rw [hv]
  have e1 : IntKind.u32.wrap (n : Int) = (n : Int) := IntWalk.u32_in _ (by omega)
  have e2 : IntKind.u32.wrap ((i.addr : Int) + (n : Int)) = (v : Int) := by
    rw [← hv, nextI, hn, IntKind.wrap_u32]
    unfold w32d
    omega
  clear hn hv hn6
  go_enter Try.func48, Try.ntmps48
  go_wp2_with fail
  refine wp_region_held_drew (S := (fun w' => w'.cell? ⟨w.heap.size, 0, none⟩ = some (.int .u32 i.addr) ∧ w'.cell? ⟨w.heap.size, 1, none⟩ = some (.int .u32 i.imm) ∧ w'.cell? ⟨w.heap.size, 2, none⟩ = some (.int .i64 i.op) ∧ w'.cell? ⟨w.heap.size, 3, none⟩ = some (.int .i64 i.form) ∧ w'.cell? ⟨w.heap.size, 4, none⟩ = some (.int .i64 i.width) ∧ w'.cell? ⟨w.heap.size, 5, none⟩ = some (.int .i64 i.cc) ∧ w'.cell? ⟨w.heap.size, 6, none⟩ = some (.int .i64 i.a) ∧ w'.cell? ⟨w.heap.size, 7, none⟩ = some (.int .i64 i.b) ∧ w'.cell? ⟨w.heap.size, 8, none⟩ = some (.int .i64 i.size))) (by kernel_rfl) (HB.out.ext (Ext.refl W0).drew).conj (fun hSg1q0 => ?_)
  refine wpAnyH_takeL (i := 0) (v := ?g1qv0) rfl (by kernel_rfl) (by kernel_rfl) (by kernel_rfl) (fun _ _ _ h => h) (Or.inl ⟨by rfl, ?g1qy0⟩) (by assumption) ?g1qr0
  case g1qy0 => first | (intro w hSw; (try dsimp only at hSw); go_simp; done) | (intro w hSw; (try dsimp only at hSw); go_simp; with_reducible rfl)
  case' g1qr0 => try simp only [Act.put, List.setIfInBounds_toArray, List.set_cons_zero, List.set_cons_succ]
  refine wpAnyH_takeL (i := 1) (v := ?g1qv1) rfl (by kernel_rfl) (by kernel_rfl) (by kernel_rfl) (fun _ _ _ h => h) (Or.inl ⟨by rfl, ?g1qy1⟩) (by assumption) ?g1qr1
  case g1qy1 => first | (intro w hSw; (try dsimp only at hSw); go_simp; done) | (intro w hSw; (try dsimp only at hSw); go_simp; with_reducible rfl)
  case' g1qr1 => try simp only [Act.put, List.setIfInBounds_toArray, List.set_cons_zero, List.set_cons_succ]
  refine wpAnyH_takeL (i := 2) (v := ?g1qv2) rfl (by kernel_rfl) (by kernel_rfl) (by kernel_rfl) (fun _ _ _ h => h) (Or.inl ⟨by rfl, ?g1qy2⟩) (by assumption) ?g1qr2
  case g1qy2 => first | (intro w hSw; (try dsimp only at hSw); go_simp; done) | (intro w hSw; (try dsimp only at hSw); go_simp; with_reducible rfl)
  case' g1qr2 => try simp only [Act.put, List.setIfInBounds_toArray, List.set_cons_zero, List.set_cons_succ]
  refine wpAnyH_ready (rs := [3]) (by kernel_rfl) (by simp) ?_
  refine AllReadyH.consL rfl (fun K hK => ?_) AllReadyH.nil
  go_simp
  go_at_call 60
  refine (HCK.out).mono ?_
  rintro e w5 ⟨rfl, hx5⟩
  have HX5 := hid ((Ext.refl W0).drew.trans hx5)
  clear hx5
  refine hK.out _ _ (HB.out.ext HX5.out).conj (fun hSg1q1 => ?_)
  clear hK K
  try simp only [Act.put, List.setIfInBounds_toArray, List.set_cons_zero, List.set_cons_succ]
  refine wpAnyH_takeL (i := 4) (v := ?g1qv4) rfl (by kernel_rfl) (by kernel_rfl) (by kernel_rfl) (fun _ _ _ h => h) (Or.inl ⟨by rfl, ?g1qy4⟩) (by assumption) ?g1qr4
  case g1qy4 => first | (intro w hSw; (try dsimp only at hSw); go_simp; done) | (intro w hSw; (try dsimp only at hSw); go_simp; with_reducible rfl)
  case' g1qr4 => try simp only [Act.put, List.setIfInBounds_toArray, List.set_cons_zero, List.set_cons_succ]
  refine wpAnyH_takeL (i := 5) (v := ?g1qv5) rfl (by kernel_rfl) (by kernel_rfl) (by kernel_rfl) (fun _ _ _ h => h) (Or.inl ⟨by rfl, ?g1qy5⟩) (by assumption) ?g1qr5
  case g1qy5 => first | (intro w hSw; (try dsimp only at hSw); go_simp; done) | (intro w hSw; (try dsimp only at hSw); go_simp; with_reducible rfl)
  case' g1qr5 => try simp only [Act.put, List.setIfInBounds_toArray, List.set_cons_zero, List.set_cons_succ]
  refine wpAnyH_takeL (i := 6) (v := ?g1qv6) rfl (by kernel_rfl) (by kernel_rfl) (by kernel_rfl) (fun _ _ _ h => h) (Or.inl ⟨by rfl, ?g1qy6⟩) (by assumption) ?g1qr6
  case g1qy6 => first | (intro w hSw; (try dsimp only at hSw); go_simp; done) | (intro w hSw; (try dsimp only at hSw); go_simp; with_reducible rfl)
  case' g1qr6 => try simp only [Act.put, List.setIfInBounds_toArray, List.set_cons_zero, List.set_cons_succ]
  refine wpAnyH_done (by kernel_rfl) ?_ _
  go_wp2
  go_ret
  exact ⟨rfl, HE.out.trans HX5.out⟩
end Go.Proofs.Ytolbnhkdpbdhhaa
