/- isa: check, Length, Next, Ends; cfg.ends. -/
import Derived.Test.YtolbnhkdpbdhhaaIsaC
import Derived.Test.YtolbnhkdpbdhhaaIsaD
namespace Go.Proofs.Ytolbnhkdpbdhhaa
open Go.RowKit Go.Deco
set_option linter.unusedSimpArgs false
set_option linter.unusedVariables false

theorem shape_le {i : In} {s : Nat} (h : opShape i = some s) : s ≤ 8 := by
  unfold opShape at h
  repeat' split at h
  all_goals (first | (cases h; done) | (injection h with h; omega))
/-- Two instructions compared, field by field. -/
theorem in_eq (w : World) (i k : In) : (Op.equalIn 10000 61 (inV i) (inV k)).run Try.prog w = .ok (decide (i = k)) w := by
  unfold inV
  simp [go_sem]
  by_cases h : i = k
  · subst h
    simp
  · rw [decide_eq_false h]
    repeat' split
    all_goals first | rfl | (exfalso; apply h; cases i; cases k; simp_all; constructor <;> omega)
theorem Box9.conj {w' : World} {b : Nat} {i : In} (h : Box9 w' b i) : w'.cell? ⟨b, 0, none⟩ = some (.int .u32 i.addr) ∧ w'.cell? ⟨b, 1, none⟩ = some (.int .u32 i.imm) ∧ w'.cell? ⟨b, 2, none⟩ = some (.int .i64 i.op) ∧ w'.cell? ⟨b, 3, none⟩ = some (.int .i64 i.form) ∧ w'.cell? ⟨b, 4, none⟩ = some (.int .i64 i.width) ∧ w'.cell? ⟨b, 5, none⟩ = some (.int .i64 i.cc) ∧ w'.cell? ⟨b, 6, none⟩ = some (.int .i64 i.a) ∧ w'.cell? ⟨b, 7, none⟩ = some (.int .i64 i.b) ∧ w'.cell? ⟨b, 8, none⟩ = some (.int .i64 i.size) := ⟨h.c0, h.c1, h.c2, h.c3, h.c4, h.c5, h.c6, h.c7, h.c8⟩
/-- What check returns. -/
def ChkIs (w : World) (i : In) (e : Ending) (w' : World) : Prop := Ext w w' ∧ ∃ (c : Int) (s : Nat), e = .returned (.tuple #[.int .u8 c, .int .i64 s, .int .i64 (isaErr i)]) ∧ (isaErr i = 0 → opShape i = some s)
theorem chk_bad {w w' : World} {i : In} {e : Ending} (n : Nat) (h0 : n ≠ 0) (h : isaErr i = n) (he : Ext w w') (h2 : e = .returned (.tuple #[.int .u8 0, .int .i64 0, .int .i64 n])) : ChkIs w i e w' :=
  ⟨he, 0, 0, by rw [h]; exact h2, fun h' => absurd (h.symm.trans h') h0⟩
theorem chk_ok {w w' : World} {i : In} {e : Ending} {c : Int} {s : Nat} (h : isaErr i = 0) (hs : opShape i = some s) (he : Ext w w') (h2 : e = .returned (.tuple #[.int .u8 c, .int .i64 s, .int .i64 0])) : ChkIs w i e w' :=
  ⟨he, c, s, by rw [h]; exact h2, fun _ => hs⟩

set_option maxRecDepth 100000 in
set_option maxHeartbeats 8000000 in
theorem check3_any (w : World) (i : In) (hi : InOk i) : Calls Try.prog 68 #[inV i] w (ChkIs w i) := by
  obtain ⟨W0, hW0⟩ : ∃ W0, w.alloc (.cells #[.int .u32 i.addr, .int .u32 i.imm, .int .i64 i.op, .int .i64 i.form, .int .i64 i.width, .int .i64 i.cc, .int .i64 i.a, .int .i64 i.b, .int .i64 i.size] 61) = W0 := ⟨_, rfl⟩
  have hE : Ext w W0 := by rw [← hW0]; exact (Ext.refl w).alloc _
  have hB : Box9 W0 w.heap.size i := by rw [← hW0]; exact Box9.new w i _
  have HE := hid hE
  have HB := hid hB
  have HI := hid hi
  obtain ⟨c0, c1, c2, c3, c4, c5, c6, c7, c8⟩ := hB
  have hop := opcode_any W0 i
  obtain ⟨o, hO⟩ : ∃ o, opShape i = o := ⟨_, rfl⟩
  rw [hO] at hop
  have HO := hid hO
  have HOP := hid hop
  have e : inV i = .agg #[.int .u32 i.addr, .int .u32 i.imm, .int .i64 i.op, .int .i64 i.form, .int .i64 i.width, .int .i64 i.cc, .int .i64 i.a, .int .i64 i.b, .int .i64 i.size] := rfl
  rw [e]
  clear hE hi hop hO e
  go_enter Try.func68, Try.ntmps68
  go_wp2_with fail
  clear hW0 c0 c1 c2 c3 c4 c5 c6 c7 c8
  refine (HOP.out).mono ?_
  rintro e w1 ⟨hx1, c, s, rfl, hs⟩
  have HX1 := hid hx1
  have HSS := hid hs
  have HB := hid (HB.out.ext hx1)
  clear hx1 hs HOP
  cases o with
  | none =>
    have HER : Hid (isaErr i = 2) := hid (by unfold isaErr; rw [HO.out])
    have n0 : (none : Option Nat).isSome = false := rfl
    go_wp2_with fail
    refine wp_region_held_drew (S := (fun w' => w'.cell? ⟨w.heap.size, 0, none⟩ = some (.int .u32 i.addr) ∧ w'.cell? ⟨w.heap.size, 1, none⟩ = some (.int .u32 i.imm) ∧ w'.cell? ⟨w.heap.size, 2, none⟩ = some (.int .i64 i.op) ∧ w'.cell? ⟨w.heap.size, 3, none⟩ = some (.int .i64 i.form) ∧ w'.cell? ⟨w.heap.size, 4, none⟩ = some (.int .i64 i.width) ∧ w'.cell? ⟨w.heap.size, 5, none⟩ = some (.int .i64 i.cc) ∧ w'.cell? ⟨w.heap.size, 6, none⟩ = some (.int .i64 i.a) ∧ w'.cell? ⟨w.heap.size, 7, none⟩ = some (.int .i64 i.b) ∧ w'.cell? ⟨w.heap.size, 8, none⟩ = some (.int .i64 i.size))) (by kernel_rfl) (HB.out.ext (Ext.refl w1).drew).conj (fun hSg11q0 => ?_)
    refine wpAnyH_takeL (i := 0) (v := ?g11qv0) rfl (by kernel_rfl) (by kernel_rfl) (by kernel_rfl) (fun _ _ _ h => h) (Or.inl ⟨by rfl, ?g11qy0⟩) (by assumption) ?g11qr0
    case g11qy0 => first | (intro w hSw; (try dsimp only at hSw); go_simp; done) | (intro w hSw; (try dsimp only at hSw); go_simp; with_reducible rfl)
    case' g11qr0 => try simp only [Act.put, List.setIfInBounds_toArray, List.set_cons_zero, List.set_cons_succ]
    refine wpAnyH_takeL (i := 1) (v := ?g11qv1) rfl (by kernel_rfl) (by kernel_rfl) (by kernel_rfl) (fun _ _ _ h => h) (Or.inl ⟨by rfl, ?g11qy1⟩) (by assumption) ?g11qr1
    case g11qy1 => first | (intro w hSw; (try dsimp only at hSw); go_simp; done) | (intro w hSw; (try dsimp only at hSw); go_simp; with_reducible rfl)
    case' g11qr1 => try simp only [Act.put, List.setIfInBounds_toArray, List.set_cons_zero, List.set_cons_succ]
    refine wpAnyH_takeL (i := 2) (v := ?g11qv2) rfl (by kernel_rfl) (by kernel_rfl) (by kernel_rfl) (fun _ _ _ h => h) (Or.inl ⟨by rfl, ?g11qy2⟩) (by assumption) ?g11qr2
    case g11qy2 => first | (intro w hSw; (try dsimp only at hSw); go_simp; done) | (intro w hSw; (try dsimp only at hSw); go_simp; with_reducible rfl)
    case' g11qr2 => try simp only [Act.put, List.setIfInBounds_toArray, List.set_cons_zero, List.set_cons_succ]
    refine wpAnyH_takeL (i := 3) (v := undef) rfl (by kernel_rfl) (by kernel_rfl) (by kernel_rfl) (fun _ _ _ h => h) (Or.inr ⟨by rfl, rfl⟩) (by assumption) ?g11qr3
    case' g11qr3 => try simp only [Act.put, List.setIfInBounds_toArray, List.set_cons_zero, List.set_cons_succ]
    refine wpAnyH_takeL (i := 4) (v := undef) rfl (by kernel_rfl) (by kernel_rfl) (by kernel_rfl) (fun _ _ _ h => h) (Or.inr ⟨by rfl, rfl⟩) (by assumption) ?g11qr4
    case' g11qr4 => try simp only [Act.put, List.setIfInBounds_toArray, List.set_cons_zero, List.set_cons_succ]
    refine wpAnyH_ready (rs := [5]) (by kernel_rfl) (by simp) ?_
    refine AllReadyH.consL rfl (fun K hK => ?_) AllReadyH.nil
    refine cast (if_neg (fun h => Bool.noConfusion (show false = true from h))).symm ?_
    refine hK.out _ _ (by assumption) (fun hSg11q1 => ?_)
    clear hK K
    try simp only [Act.put, List.setIfInBounds_toArray, List.set_cons_zero, List.set_cons_succ]
    refine wpAnyH_takeL (i := 6) (v := undef) rfl (by kernel_rfl) (by kernel_rfl) (by kernel_rfl) (fun _ _ _ h => h) (Or.inr ⟨by rfl, rfl⟩) (by assumption) ?g11qr6
    case' g11qr6 => try simp only [Act.put, List.setIfInBounds_toArray, List.set_cons_zero, List.set_cons_succ]
    refine wpAnyH_takeL (i := 7) (v := ?g11qv7) rfl (by kernel_rfl) (by kernel_rfl) (by kernel_rfl) (fun _ _ _ h => h) (Or.inl ⟨by rfl, ?g11qy7⟩) (by assumption) ?g11qr7
    case g11qy7 => first | (intro w hSw; (try dsimp only at hSw); go_simp; done) | (intro w hSw; (try dsimp only at hSw); go_simp; with_reducible rfl)
    case' g11qr7 => try simp only [Act.put, List.setIfInBounds_toArray, List.set_cons_zero, List.set_cons_succ]
    refine wpAnyH_takeL (i := 8) (v := ?g11qv8) rfl (by kernel_rfl) (by kernel_rfl) (by kernel_rfl) (fun _ _ _ h => h) (Or.inl ⟨by rfl, ?g11qy8⟩) (by assumption) ?g11qr8
    case g11qy8 => first | (intro w hSw; (try dsimp only at hSw); go_simp; done) | (intro w hSw; (try dsimp only at hSw); go_simp; with_reducible rfl)
    case' g11qr8 => try simp only [Act.put, List.setIfInBounds_toArray, List.set_cons_zero, List.set_cons_succ]
    refine wpAnyH_takeL (i := 9) (v := undef) rfl (by kernel_rfl) (by kernel_rfl) (by kernel_rfl) (fun _ _ _ h => h) (Or.inr ⟨by rfl, rfl⟩) (by assumption) ?g11qr9
    case' g11qr9 => try simp only [Act.put, List.setIfInBounds_toArray, List.set_cons_zero, List.set_cons_succ]
    refine wpAnyH_takeL (i := 10) (v := undef) rfl (by kernel_rfl) (by kernel_rfl) (by kernel_rfl) (fun _ _ _ h => h) (Or.inr ⟨by rfl, rfl⟩) (by assumption) ?g11qr10
    case' g11qr10 => try simp only [Act.put, List.setIfInBounds_toArray, List.set_cons_zero, List.set_cons_succ]
    refine wpAnyH_ready (rs := [11]) (by kernel_rfl) (by simp) ?_
    refine AllReadyH.consL rfl (fun K hK => ?_) AllReadyH.nil
    refine cast (if_neg (fun h => Bool.noConfusion (show false = true from h))).symm ?_
    refine hK.out _ _ (by assumption) (fun hSg11q2 => ?_)
    clear hK K
    try simp only [Act.put, List.setIfInBounds_toArray, List.set_cons_zero, List.set_cons_succ]
    refine wpAnyH_takeL (i := 12) (v := undef) rfl (by kernel_rfl) (by kernel_rfl) (by kernel_rfl) (fun _ _ _ h => h) (Or.inr ⟨by rfl, rfl⟩) (by assumption) ?g11qr12
    case' g11qr12 => try simp only [Act.put, List.setIfInBounds_toArray, List.set_cons_zero, List.set_cons_succ]
    refine wpAnyH_takeL (i := 13) (v := ?g11qv13) rfl (by kernel_rfl) (by kernel_rfl) (by kernel_rfl) (fun _ _ _ h => h) (Or.inl ⟨by rfl, ?g11qy13⟩) (by assumption) ?g11qr13
    case g11qy13 => first | (intro w hSw; (try dsimp only at hSw); go_simp; done) | (intro w hSw; (try dsimp only at hSw); go_simp; with_reducible rfl)
    case' g11qr13 => try simp only [Act.put, List.setIfInBounds_toArray, List.set_cons_zero, List.set_cons_succ]
    refine wpAnyH_takeL (i := 14) (v := ?g11qv14) rfl (by kernel_rfl) (by kernel_rfl) (by kernel_rfl) (fun _ _ _ h => h) (Or.inl ⟨by rfl, ?g11qy14⟩) (by assumption) ?g11qr14
    case g11qy14 => first | (intro w hSw; (try dsimp only at hSw); go_simp; done) | (intro w hSw; (try dsimp only at hSw); go_simp; with_reducible rfl)
    case' g11qr14 => try simp only [Act.put, List.setIfInBounds_toArray, List.set_cons_zero, List.set_cons_succ]
    refine wpAnyH_takeL (i := 15) (v := undef) rfl (by kernel_rfl) (by kernel_rfl) (by kernel_rfl) (fun _ _ _ h => h) (Or.inr ⟨by rfl, rfl⟩) (by assumption) ?g11qr15
    case' g11qr15 => try simp only [Act.put, List.setIfInBounds_toArray, List.set_cons_zero, List.set_cons_succ]
    refine wpAnyH_takeL (i := 16) (v := undef) rfl (by kernel_rfl) (by kernel_rfl) (by kernel_rfl) (fun _ _ _ h => h) (Or.inr ⟨by rfl, rfl⟩) (by assumption) ?g11qr16
    case' g11qr16 => try simp only [Act.put, List.setIfInBounds_toArray, List.set_cons_zero, List.set_cons_succ]
    refine wpAnyH_takeL (i := 18) (v := undef) rfl (by kernel_rfl) (by kernel_rfl) (by kernel_rfl) (fun _ _ _ h => h) (Or.inr ⟨by rfl, rfl⟩) (by assumption) ?g11qr18
    case' g11qr18 => try simp only [Act.put, List.setIfInBounds_toArray, List.set_cons_zero, List.set_cons_succ]
    refine wpAnyH_ready (rs := [17]) (by kernel_rfl) (by simp) ?_
    refine AllReadyH.consL rfl (fun K hK => ?_) AllReadyH.nil
    refine cast (if_neg (fun h => Bool.noConfusion (show false = true from h))).symm ?_
    refine hK.out _ _ (by assumption) (fun hSg11q3 => ?_)
    clear hK K
    try simp only [Act.put, List.setIfInBounds_toArray, List.set_cons_zero, List.set_cons_succ]
    refine wpAnyH_takeL (i := 19) (v := undef) rfl (by kernel_rfl) (by kernel_rfl) (by kernel_rfl) (fun _ _ _ h => h) (Or.inr ⟨by rfl, rfl⟩) (by assumption) ?g11qr19
    case' g11qr19 => try simp only [Act.put, List.setIfInBounds_toArray, List.set_cons_zero, List.set_cons_succ]
    refine wpAnyH_takeL (i := 20) (v := ?g11qv20) rfl (by kernel_rfl) (by kernel_rfl) (by kernel_rfl) (fun _ _ _ h => h) (Or.inl ⟨by rfl, ?g11qy20⟩) (by assumption) ?g11qr20
    case g11qy20 => first | (intro w hSw; (try dsimp only at hSw); go_simp; done) | (intro w hSw; (try dsimp only at hSw); go_simp; with_reducible rfl)
    case' g11qr20 => try simp only [Act.put, List.setIfInBounds_toArray, List.set_cons_zero, List.set_cons_succ]
    refine wpAnyH_done (by kernel_rfl) ?_ _
    go_wp2
    go_ret3
    exact chk_bad 2 (by omega) HER.out (HE.out.trans (HX1.out.drew)) (by simp)
  | some s' =>
    obtain rfl := HSS.out s' rfl
    have n0 : (some s : Option Nat).isSome = true := rfl
    have hle := shape_le HO.out
    have HLE := hid hle
    clear hle HSS
    by_cases ha : regB i.a = true
    case neg =>
      have ha : regB i.a = false := by simpa using ha
      have HA := hid ha
      have HER : Hid (isaErr i = 2) := hid (by unfold isaErr; rw [HO.out]; simp [ha])
      clear ha
      go_wp2_with fail
      refine wp_region_held_drew (S := (fun w' => w'.cell? ⟨w.heap.size, 0, none⟩ = some (.int .u32 i.addr) ∧ w'.cell? ⟨w.heap.size, 1, none⟩ = some (.int .u32 i.imm) ∧ w'.cell? ⟨w.heap.size, 2, none⟩ = some (.int .i64 i.op) ∧ w'.cell? ⟨w.heap.size, 3, none⟩ = some (.int .i64 i.form) ∧ w'.cell? ⟨w.heap.size, 4, none⟩ = some (.int .i64 i.width) ∧ w'.cell? ⟨w.heap.size, 5, none⟩ = some (.int .i64 i.cc) ∧ w'.cell? ⟨w.heap.size, 6, none⟩ = some (.int .i64 i.a) ∧ w'.cell? ⟨w.heap.size, 7, none⟩ = some (.int .i64 i.b) ∧ w'.cell? ⟨w.heap.size, 8, none⟩ = some (.int .i64 i.size))) (by kernel_rfl) (HB.out.ext (Ext.refl w1).drew).conj (fun hSg12q0 => ?_)
      refine wpAnyH_takeL (i := 0) (v := ?g12qv0) rfl (by kernel_rfl) (by kernel_rfl) (by kernel_rfl) (fun _ _ _ h => h) (Or.inl ⟨by rfl, ?g12qy0⟩) (by assumption) ?g12qr0
      case g12qy0 => first | (intro w hSw; (try dsimp only at hSw); go_simp; done) | (intro w hSw; (try dsimp only at hSw); go_simp; with_reducible rfl)
      case' g12qr0 => try simp only [Act.put, List.setIfInBounds_toArray, List.set_cons_zero, List.set_cons_succ]
      refine wpAnyH_takeL (i := 1) (v := ?g12qv1) rfl (by kernel_rfl) (by kernel_rfl) (by kernel_rfl) (fun _ _ _ h => h) (Or.inl ⟨by rfl, ?g12qy1⟩) (by assumption) ?g12qr1
      case g12qy1 => first | (intro w hSw; (try dsimp only at hSw); go_simp; done) | (intro w hSw; (try dsimp only at hSw); go_simp; with_reducible rfl)
      case' g12qr1 => try simp only [Act.put, List.setIfInBounds_toArray, List.set_cons_zero, List.set_cons_succ]
      refine wpAnyH_takeL (i := 2) (v := ?g12qv2) rfl (by kernel_rfl) (by kernel_rfl) (by kernel_rfl) (fun _ _ _ h => h) (Or.inl ⟨by rfl, ?g12qy2⟩) (by assumption) ?g12qr2
      case g12qy2 => first | (intro w hSw; (try dsimp only at hSw); go_simp; done) | (intro w hSw; (try dsimp only at hSw); go_simp; with_reducible rfl)
      case' g12qr2 => try simp only [Act.put, List.setIfInBounds_toArray, List.set_cons_zero, List.set_cons_succ]
      refine wpAnyH_takeL (i := 3) (v := ?g12qv3) rfl (by kernel_rfl) (by kernel_rfl) (by kernel_rfl) (fun _ _ _ h => h) (Or.inl ⟨by rfl, ?g12qy3⟩) (by assumption) ?g12qr3
      case g12qy3 => first | (intro w hSw; (try dsimp only at hSw); go_simp; done) | (intro w hSw; (try dsimp only at hSw); go_simp; with_reducible rfl)
      case' g12qr3 => try simp only [Act.put, List.setIfInBounds_toArray, List.set_cons_zero, List.set_cons_succ]
      refine wpAnyH_takeL (i := 4) (v := ?g12qv4) rfl (by kernel_rfl) (by kernel_rfl) (by kernel_rfl) (fun _ _ _ h => h) (Or.inl ⟨by rfl, ?g12qy4⟩) (by assumption) ?g12qr4
      case g12qy4 => first | (intro w hSw; (try dsimp only at hSw); go_simp; done) | (intro w hSw; (try dsimp only at hSw); go_simp; with_reducible rfl)
      case' g12qr4 => try simp only [Act.put, List.setIfInBounds_toArray, List.set_cons_zero, List.set_cons_succ]
      refine wpAnyH_ready (rs := [5]) (by kernel_rfl) (by simp) ?_
      refine AllReadyH.consL rfl (fun K hK => ?_) AllReadyH.nil
      go_simp
      go_at_call 88
      refine (reg_any _ _).mono ?_
      rintro e w5 ⟨rfl, hw5⟩
      subst hw5
      rw [HA.out]
      refine hK.out _ _ (HB.out.ext (Ext.refl w1).drew).conj (fun hSg12q1 => ?_)
      clear hK K
      try simp only [Act.put, List.setIfInBounds_toArray, List.set_cons_zero, List.set_cons_succ]
      refine wpAnyH_takeL (i := 6) (v := ?g12qv6) rfl (by kernel_rfl) (by kernel_rfl) (by kernel_rfl) (fun _ _ _ h => h) (Or.inl ⟨by rfl, ?g12qy6⟩) (by assumption) ?g12qr6
      case g12qy6 => first | (intro w hSw; (try dsimp only at hSw); go_simp; done) | (intro w hSw; (try dsimp only at hSw); go_simp; with_reducible rfl)
      case' g12qr6 => try simp only [Act.put, List.setIfInBounds_toArray, List.set_cons_zero, List.set_cons_succ]
      refine wpAnyH_takeL (i := 7) (v := ?g12qv7) rfl (by kernel_rfl) (by kernel_rfl) (by kernel_rfl) (fun _ _ _ h => h) (Or.inl ⟨by rfl, ?g12qy7⟩) (by assumption) ?g12qr7
      case g12qy7 => first | (intro w hSw; (try dsimp only at hSw); go_simp; done) | (intro w hSw; (try dsimp only at hSw); go_simp; with_reducible rfl)
      case' g12qr7 => try simp only [Act.put, List.setIfInBounds_toArray, List.set_cons_zero, List.set_cons_succ]
      refine wpAnyH_takeL (i := 8) (v := ?g12qv8) rfl (by kernel_rfl) (by kernel_rfl) (by kernel_rfl) (fun _ _ _ h => h) (Or.inl ⟨by rfl, ?g12qy8⟩) (by assumption) ?g12qr8
      case g12qy8 => first | (intro w hSw; (try dsimp only at hSw); go_simp; done) | (intro w hSw; (try dsimp only at hSw); go_simp; with_reducible rfl)
      case' g12qr8 => try simp only [Act.put, List.setIfInBounds_toArray, List.set_cons_zero, List.set_cons_succ]
      refine wpAnyH_takeL (i := 9) (v := undef) rfl (by kernel_rfl) (by kernel_rfl) (by kernel_rfl) (fun _ _ _ h => h) (Or.inr ⟨by rfl, rfl⟩) (by assumption) ?g12qr9
      case' g12qr9 => try simp only [Act.put, List.setIfInBounds_toArray, List.set_cons_zero, List.set_cons_succ]
      refine wpAnyH_takeL (i := 10) (v := undef) rfl (by kernel_rfl) (by kernel_rfl) (by kernel_rfl) (fun _ _ _ h => h) (Or.inr ⟨by rfl, rfl⟩) (by assumption) ?g12qr10
      case' g12qr10 => try simp only [Act.put, List.setIfInBounds_toArray, List.set_cons_zero, List.set_cons_succ]
      refine wpAnyH_ready (rs := [11]) (by kernel_rfl) (by simp) ?_
      refine AllReadyH.consL rfl (fun K hK => ?_) AllReadyH.nil
      refine cast (if_neg (fun h => Bool.noConfusion (show false = true from h))).symm ?_
      refine hK.out _ _ (by assumption) (fun hSg12q2 => ?_)
      clear hK K
      try simp only [Act.put, List.setIfInBounds_toArray, List.set_cons_zero, List.set_cons_succ]
      refine wpAnyH_takeL (i := 12) (v := undef) rfl (by kernel_rfl) (by kernel_rfl) (by kernel_rfl) (fun _ _ _ h => h) (Or.inr ⟨by rfl, rfl⟩) (by assumption) ?g12qr12
      case' g12qr12 => try simp only [Act.put, List.setIfInBounds_toArray, List.set_cons_zero, List.set_cons_succ]
      refine wpAnyH_takeL (i := 13) (v := ?g12qv13) rfl (by kernel_rfl) (by kernel_rfl) (by kernel_rfl) (fun _ _ _ h => h) (Or.inl ⟨by rfl, ?g12qy13⟩) (by assumption) ?g12qr13
      case g12qy13 => first | (intro w hSw; (try dsimp only at hSw); go_simp; done) | (intro w hSw; (try dsimp only at hSw); go_simp; with_reducible rfl)
      case' g12qr13 => try simp only [Act.put, List.setIfInBounds_toArray, List.set_cons_zero, List.set_cons_succ]
      refine wpAnyH_takeL (i := 14) (v := ?g12qv14) rfl (by kernel_rfl) (by kernel_rfl) (by kernel_rfl) (fun _ _ _ h => h) (Or.inl ⟨by rfl, ?g12qy14⟩) (by assumption) ?g12qr14
      case g12qy14 => first | (intro w hSw; (try dsimp only at hSw); go_simp; done) | (intro w hSw; (try dsimp only at hSw); go_simp; with_reducible rfl)
      case' g12qr14 => try simp only [Act.put, List.setIfInBounds_toArray, List.set_cons_zero, List.set_cons_succ]
      refine wpAnyH_takeL (i := 15) (v := undef) rfl (by kernel_rfl) (by kernel_rfl) (by kernel_rfl) (fun _ _ _ h => h) (Or.inr ⟨by rfl, rfl⟩) (by assumption) ?g12qr15
      case' g12qr15 => try simp only [Act.put, List.setIfInBounds_toArray, List.set_cons_zero, List.set_cons_succ]
      refine wpAnyH_takeL (i := 16) (v := undef) rfl (by kernel_rfl) (by kernel_rfl) (by kernel_rfl) (fun _ _ _ h => h) (Or.inr ⟨by rfl, rfl⟩) (by assumption) ?g12qr16
      case' g12qr16 => try simp only [Act.put, List.setIfInBounds_toArray, List.set_cons_zero, List.set_cons_succ]
      refine wpAnyH_takeL (i := 18) (v := undef) rfl (by kernel_rfl) (by kernel_rfl) (by kernel_rfl) (fun _ _ _ h => h) (Or.inr ⟨by rfl, rfl⟩) (by assumption) ?g12qr18
      case' g12qr18 => try simp only [Act.put, List.setIfInBounds_toArray, List.set_cons_zero, List.set_cons_succ]
      refine wpAnyH_ready (rs := [17]) (by kernel_rfl) (by simp) ?_
      refine AllReadyH.consL rfl (fun K hK => ?_) AllReadyH.nil
      refine cast (if_neg (fun h => Bool.noConfusion (show false = true from h))).symm ?_
      refine hK.out _ _ (by assumption) (fun hSg12q3 => ?_)
      clear hK K
      try simp only [Act.put, List.setIfInBounds_toArray, List.set_cons_zero, List.set_cons_succ]
      refine wpAnyH_takeL (i := 19) (v := undef) rfl (by kernel_rfl) (by kernel_rfl) (by kernel_rfl) (fun _ _ _ h => h) (Or.inr ⟨by rfl, rfl⟩) (by assumption) ?g12qr19
      case' g12qr19 => try simp only [Act.put, List.setIfInBounds_toArray, List.set_cons_zero, List.set_cons_succ]
      refine wpAnyH_takeL (i := 20) (v := ?g12qv20) rfl (by kernel_rfl) (by kernel_rfl) (by kernel_rfl) (fun _ _ _ h => h) (Or.inl ⟨by rfl, ?g12qy20⟩) (by assumption) ?g12qr20
      case g12qy20 => first | (intro w hSw; (try dsimp only at hSw); go_simp; done) | (intro w hSw; (try dsimp only at hSw); go_simp; with_reducible rfl)
      case' g12qr20 => try simp only [Act.put, List.setIfInBounds_toArray, List.set_cons_zero, List.set_cons_succ]
      refine wpAnyH_done (by kernel_rfl) ?_ _
      go_wp2
      go_ret3
      exact chk_bad 2 (by omega) HER.out (HE.out.trans (HX1.out.drew)) (by simp)
    have HA := hid ha
    by_cases hb : regB i.b = true
    case neg =>
      have hb : regB i.b = false := by simpa using hb
      have HBB := hid hb
      have HER : Hid (isaErr i = 2) := hid (by unfold isaErr; rw [HO.out]; simp [hb])
      clear ha hb
      go_wp2_with fail
      refine wp_region_held_drew (S := (fun w' => w'.cell? ⟨w.heap.size, 0, none⟩ = some (.int .u32 i.addr) ∧ w'.cell? ⟨w.heap.size, 1, none⟩ = some (.int .u32 i.imm) ∧ w'.cell? ⟨w.heap.size, 2, none⟩ = some (.int .i64 i.op) ∧ w'.cell? ⟨w.heap.size, 3, none⟩ = some (.int .i64 i.form) ∧ w'.cell? ⟨w.heap.size, 4, none⟩ = some (.int .i64 i.width) ∧ w'.cell? ⟨w.heap.size, 5, none⟩ = some (.int .i64 i.cc) ∧ w'.cell? ⟨w.heap.size, 6, none⟩ = some (.int .i64 i.a) ∧ w'.cell? ⟨w.heap.size, 7, none⟩ = some (.int .i64 i.b) ∧ w'.cell? ⟨w.heap.size, 8, none⟩ = some (.int .i64 i.size))) (by kernel_rfl) (HB.out.ext (Ext.refl w1).drew).conj (fun hSg13q0 => ?_)
      refine wpAnyH_takeL (i := 0) (v := ?g13qv0) rfl (by kernel_rfl) (by kernel_rfl) (by kernel_rfl) (fun _ _ _ h => h) (Or.inl ⟨by rfl, ?g13qy0⟩) (by assumption) ?g13qr0
      case g13qy0 => first | (intro w hSw; (try dsimp only at hSw); go_simp; done) | (intro w hSw; (try dsimp only at hSw); go_simp; with_reducible rfl)
      case' g13qr0 => try simp only [Act.put, List.setIfInBounds_toArray, List.set_cons_zero, List.set_cons_succ]
      refine wpAnyH_takeL (i := 1) (v := ?g13qv1) rfl (by kernel_rfl) (by kernel_rfl) (by kernel_rfl) (fun _ _ _ h => h) (Or.inl ⟨by rfl, ?g13qy1⟩) (by assumption) ?g13qr1
      case g13qy1 => first | (intro w hSw; (try dsimp only at hSw); go_simp; done) | (intro w hSw; (try dsimp only at hSw); go_simp; with_reducible rfl)
      case' g13qr1 => try simp only [Act.put, List.setIfInBounds_toArray, List.set_cons_zero, List.set_cons_succ]
      refine wpAnyH_takeL (i := 2) (v := ?g13qv2) rfl (by kernel_rfl) (by kernel_rfl) (by kernel_rfl) (fun _ _ _ h => h) (Or.inl ⟨by rfl, ?g13qy2⟩) (by assumption) ?g13qr2
      case g13qy2 => first | (intro w hSw; (try dsimp only at hSw); go_simp; done) | (intro w hSw; (try dsimp only at hSw); go_simp; with_reducible rfl)
      case' g13qr2 => try simp only [Act.put, List.setIfInBounds_toArray, List.set_cons_zero, List.set_cons_succ]
      refine wpAnyH_takeL (i := 3) (v := ?g13qv3) rfl (by kernel_rfl) (by kernel_rfl) (by kernel_rfl) (fun _ _ _ h => h) (Or.inl ⟨by rfl, ?g13qy3⟩) (by assumption) ?g13qr3
      case g13qy3 => first | (intro w hSw; (try dsimp only at hSw); go_simp; done) | (intro w hSw; (try dsimp only at hSw); go_simp; with_reducible rfl)
      case' g13qr3 => try simp only [Act.put, List.setIfInBounds_toArray, List.set_cons_zero, List.set_cons_succ]
      refine wpAnyH_takeL (i := 4) (v := ?g13qv4) rfl (by kernel_rfl) (by kernel_rfl) (by kernel_rfl) (fun _ _ _ h => h) (Or.inl ⟨by rfl, ?g13qy4⟩) (by assumption) ?g13qr4
      case g13qy4 => first | (intro w hSw; (try dsimp only at hSw); go_simp; done) | (intro w hSw; (try dsimp only at hSw); go_simp; with_reducible rfl)
      case' g13qr4 => try simp only [Act.put, List.setIfInBounds_toArray, List.set_cons_zero, List.set_cons_succ]
      refine wpAnyH_ready (rs := [5]) (by kernel_rfl) (by simp) ?_
      refine AllReadyH.consL rfl (fun K hK => ?_) AllReadyH.nil
      go_simp
      go_at_call 88
      refine (reg_any _ _).mono ?_
      rintro e w5 ⟨rfl, hw5⟩
      subst hw5
      rw [HA.out]
      refine hK.out _ _ (HB.out.ext (Ext.refl w1).drew).conj (fun hSg13q1 => ?_)
      clear hK K
      try simp only [Act.put, List.setIfInBounds_toArray, List.set_cons_zero, List.set_cons_succ]
      refine wpAnyH_takeL (i := 6) (v := ?g13qv6) rfl (by kernel_rfl) (by kernel_rfl) (by kernel_rfl) (fun _ _ _ h => h) (Or.inl ⟨by rfl, ?g13qy6⟩) (by assumption) ?g13qr6
      case g13qy6 => first | (intro w hSw; (try dsimp only at hSw); go_simp; done) | (intro w hSw; (try dsimp only at hSw); go_simp; with_reducible rfl)
      case' g13qr6 => try simp only [Act.put, List.setIfInBounds_toArray, List.set_cons_zero, List.set_cons_succ]
      refine wpAnyH_takeL (i := 7) (v := ?g13qv7) rfl (by kernel_rfl) (by kernel_rfl) (by kernel_rfl) (fun _ _ _ h => h) (Or.inl ⟨by rfl, ?g13qy7⟩) (by assumption) ?g13qr7
      case g13qy7 => first | (intro w hSw; (try dsimp only at hSw); go_simp; done) | (intro w hSw; (try dsimp only at hSw); go_simp; with_reducible rfl)
      case' g13qr7 => try simp only [Act.put, List.setIfInBounds_toArray, List.set_cons_zero, List.set_cons_succ]
      refine wpAnyH_takeL (i := 8) (v := ?g13qv8) rfl (by kernel_rfl) (by kernel_rfl) (by kernel_rfl) (fun _ _ _ h => h) (Or.inl ⟨by rfl, ?g13qy8⟩) (by assumption) ?g13qr8
      case g13qy8 => first | (intro w hSw; (try dsimp only at hSw); go_simp; done) | (intro w hSw; (try dsimp only at hSw); go_simp; with_reducible rfl)
      case' g13qr8 => try simp only [Act.put, List.setIfInBounds_toArray, List.set_cons_zero, List.set_cons_succ]
      refine wpAnyH_takeL (i := 9) (v := ?g13qv9) rfl (by kernel_rfl) (by kernel_rfl) (by kernel_rfl) (fun _ _ _ h => h) (Or.inl ⟨by rfl, ?g13qy9⟩) (by assumption) ?g13qr9
      case g13qy9 => first | (intro w hSw; (try dsimp only at hSw); go_simp; done) | (intro w hSw; (try dsimp only at hSw); go_simp; with_reducible rfl)
      case' g13qr9 => try simp only [Act.put, List.setIfInBounds_toArray, List.set_cons_zero, List.set_cons_succ]
      refine wpAnyH_takeL (i := 10) (v := ?g13qv10) rfl (by kernel_rfl) (by kernel_rfl) (by kernel_rfl) (fun _ _ _ h => h) (Or.inl ⟨by rfl, ?g13qy10⟩) (by assumption) ?g13qr10
      case g13qy10 => first | (intro w hSw; (try dsimp only at hSw); go_simp; done) | (intro w hSw; (try dsimp only at hSw); go_simp; with_reducible rfl)
      case' g13qr10 => try simp only [Act.put, List.setIfInBounds_toArray, List.set_cons_zero, List.set_cons_succ]
      refine wpAnyH_ready (rs := [11]) (by kernel_rfl) (by simp) ?_
      refine AllReadyH.consL rfl (fun K hK => ?_) AllReadyH.nil
      go_simp
      go_at_call 88
      refine (reg_any _ _).mono ?_
      rintro e w5 ⟨rfl, hw5⟩
      subst hw5
      rw [HBB.out]
      refine hK.out _ _ (HB.out.ext (Ext.refl w1).drew).conj (fun hSg13q2 => ?_)
      clear hK K
      try simp only [Act.put, List.setIfInBounds_toArray, List.set_cons_zero, List.set_cons_succ]
      refine wpAnyH_takeL (i := 12) (v := ?g13qv12) rfl (by kernel_rfl) (by kernel_rfl) (by kernel_rfl) (fun _ _ _ h => h) (Or.inl ⟨by rfl, ?g13qy12⟩) (by assumption) ?g13qr12
      case g13qy12 => first | (intro w hSw; (try dsimp only at hSw); go_simp; done) | (intro w hSw; (try dsimp only at hSw); go_simp; with_reducible rfl)
      case' g13qr12 => try simp only [Act.put, List.setIfInBounds_toArray, List.set_cons_zero, List.set_cons_succ]
      refine wpAnyH_takeL (i := 13) (v := ?g13qv13) rfl (by kernel_rfl) (by kernel_rfl) (by kernel_rfl) (fun _ _ _ h => h) (Or.inl ⟨by rfl, ?g13qy13⟩) (by assumption) ?g13qr13
      case g13qy13 => first | (intro w hSw; (try dsimp only at hSw); go_simp; done) | (intro w hSw; (try dsimp only at hSw); go_simp; with_reducible rfl)
      case' g13qr13 => try simp only [Act.put, List.setIfInBounds_toArray, List.set_cons_zero, List.set_cons_succ]
      refine wpAnyH_takeL (i := 14) (v := ?g13qv14) rfl (by kernel_rfl) (by kernel_rfl) (by kernel_rfl) (fun _ _ _ h => h) (Or.inl ⟨by rfl, ?g13qy14⟩) (by assumption) ?g13qr14
      case g13qy14 => first | (intro w hSw; (try dsimp only at hSw); go_simp; done) | (intro w hSw; (try dsimp only at hSw); go_simp; with_reducible rfl)
      case' g13qr14 => try simp only [Act.put, List.setIfInBounds_toArray, List.set_cons_zero, List.set_cons_succ]
      refine wpAnyH_takeL (i := 15) (v := undef) rfl (by kernel_rfl) (by kernel_rfl) (by kernel_rfl) (fun _ _ _ h => h) (Or.inr ⟨by rfl, rfl⟩) (by assumption) ?g13qr15
      case' g13qr15 => try simp only [Act.put, List.setIfInBounds_toArray, List.set_cons_zero, List.set_cons_succ]
      refine wpAnyH_takeL (i := 16) (v := undef) rfl (by kernel_rfl) (by kernel_rfl) (by kernel_rfl) (fun _ _ _ h => h) (Or.inr ⟨by rfl, rfl⟩) (by assumption) ?g13qr16
      case' g13qr16 => try simp only [Act.put, List.setIfInBounds_toArray, List.set_cons_zero, List.set_cons_succ]
      refine wpAnyH_takeL (i := 18) (v := undef) rfl (by kernel_rfl) (by kernel_rfl) (by kernel_rfl) (fun _ _ _ h => h) (Or.inr ⟨by rfl, rfl⟩) (by assumption) ?g13qr18
      case' g13qr18 => try simp only [Act.put, List.setIfInBounds_toArray, List.set_cons_zero, List.set_cons_succ]
      refine wpAnyH_ready (rs := [17]) (by kernel_rfl) (by simp) ?_
      refine AllReadyH.consL rfl (fun K hK => ?_) AllReadyH.nil
      refine cast (if_neg (fun h => Bool.noConfusion (show false = true from h))).symm ?_
      refine hK.out _ _ (by assumption) (fun hSg13q3 => ?_)
      clear hK K
      try simp only [Act.put, List.setIfInBounds_toArray, List.set_cons_zero, List.set_cons_succ]
      refine wpAnyH_takeL (i := 19) (v := undef) rfl (by kernel_rfl) (by kernel_rfl) (by kernel_rfl) (fun _ _ _ h => h) (Or.inr ⟨by rfl, rfl⟩) (by assumption) ?g13qr19
      case' g13qr19 => try simp only [Act.put, List.setIfInBounds_toArray, List.set_cons_zero, List.set_cons_succ]
      refine wpAnyH_takeL (i := 20) (v := ?g13qv20) rfl (by kernel_rfl) (by kernel_rfl) (by kernel_rfl) (fun _ _ _ h => h) (Or.inl ⟨by rfl, ?g13qy20⟩) (by assumption) ?g13qr20
      case g13qy20 => first | (intro w hSw; (try dsimp only at hSw); go_simp; done) | (intro w hSw; (try dsimp only at hSw); go_simp; with_reducible rfl)
      case' g13qr20 => try simp only [Act.put, List.setIfInBounds_toArray, List.set_cons_zero, List.set_cons_succ]
      refine wpAnyH_done (by kernel_rfl) ?_ _
      go_wp2
      go_ret3
      exact chk_bad 2 (by omega) HER.out (HE.out.trans (HX1.out.drew)) (by simp)
    have HBB := hid hb
    obtain ⟨k, hk⟩ : ∃ k, keptI i s = k := ⟨_, rfl⟩
    have HK := hid hk
    have heq : ∀ w, (Op.equalIn 10000 61 (.agg #[.int .u32 k.addr, .int .u32 k.imm, .int .i64 k.op, .int .i64 k.form, .int .i64 k.width, .int .i64 k.cc, .int .i64 k.a, .int .i64 k.b, .int .i64 k.size]) (.agg #[.int .u32 i.addr, .int .u32 i.imm, .int .i64 i.op, .int .i64 i.form, .int .i64 i.width, .int .i64 i.cc, .int .i64 i.a, .int .i64 i.b, .int .i64 i.size])).run Try.prog w = .ok (decide (k = i)) w := fun w => in_eq w k i
    obtain ⟨d, hd⟩ : ∃ d, decide (k = i) = d := ⟨_, rfl⟩
    rw [hd] at heq
    have HD := hid hd
    clear ha hb hk hd
    cases d with
    | false =>
      have HER : Hid (isaErr i = 2) := hid (by
        have h := of_decide_eq_false HD.out
        rw [← HK.out] at h
        unfold isaErr
        rw [HO.out]
        simp [h])
      go_wp2_with fail
      refine wp_region_held_drew (S := (fun w' => w'.cell? ⟨w.heap.size, 0, none⟩ = some (.int .u32 i.addr) ∧ w'.cell? ⟨w.heap.size, 1, none⟩ = some (.int .u32 i.imm) ∧ w'.cell? ⟨w.heap.size, 2, none⟩ = some (.int .i64 i.op) ∧ w'.cell? ⟨w.heap.size, 3, none⟩ = some (.int .i64 i.form) ∧ w'.cell? ⟨w.heap.size, 4, none⟩ = some (.int .i64 i.width) ∧ w'.cell? ⟨w.heap.size, 5, none⟩ = some (.int .i64 i.cc) ∧ w'.cell? ⟨w.heap.size, 6, none⟩ = some (.int .i64 i.a) ∧ w'.cell? ⟨w.heap.size, 7, none⟩ = some (.int .i64 i.b) ∧ w'.cell? ⟨w.heap.size, 8, none⟩ = some (.int .i64 i.size))) (by kernel_rfl) (HB.out.ext (Ext.refl w1).drew).conj (fun hSg14q0 => ?_)
      refine wpAnyH_takeL (i := 0) (v := ?g14qv0) rfl (by kernel_rfl) (by kernel_rfl) (by kernel_rfl) (fun _ _ _ h => h) (Or.inl ⟨by rfl, ?g14qy0⟩) (by assumption) ?g14qr0
      case g14qy0 => first | (intro w hSw; (try dsimp only at hSw); go_simp; done) | (intro w hSw; (try dsimp only at hSw); go_simp; with_reducible rfl)
      case' g14qr0 => try simp only [Act.put, List.setIfInBounds_toArray, List.set_cons_zero, List.set_cons_succ]
      refine wpAnyH_takeL (i := 1) (v := ?g14qv1) rfl (by kernel_rfl) (by kernel_rfl) (by kernel_rfl) (fun _ _ _ h => h) (Or.inl ⟨by rfl, ?g14qy1⟩) (by assumption) ?g14qr1
      case g14qy1 => first | (intro w hSw; (try dsimp only at hSw); go_simp; done) | (intro w hSw; (try dsimp only at hSw); go_simp; with_reducible rfl)
      case' g14qr1 => try simp only [Act.put, List.setIfInBounds_toArray, List.set_cons_zero, List.set_cons_succ]
      refine wpAnyH_takeL (i := 2) (v := ?g14qv2) rfl (by kernel_rfl) (by kernel_rfl) (by kernel_rfl) (fun _ _ _ h => h) (Or.inl ⟨by rfl, ?g14qy2⟩) (by assumption) ?g14qr2
      case g14qy2 => first | (intro w hSw; (try dsimp only at hSw); go_simp; done) | (intro w hSw; (try dsimp only at hSw); go_simp; with_reducible rfl)
      case' g14qr2 => try simp only [Act.put, List.setIfInBounds_toArray, List.set_cons_zero, List.set_cons_succ]
      refine wpAnyH_takeL (i := 3) (v := ?g14qv3) rfl (by kernel_rfl) (by kernel_rfl) (by kernel_rfl) (fun _ _ _ h => h) (Or.inl ⟨by rfl, ?g14qy3⟩) (by assumption) ?g14qr3
      case g14qy3 => first | (intro w hSw; (try dsimp only at hSw); go_simp; done) | (intro w hSw; (try dsimp only at hSw); go_simp; with_reducible rfl)
      case' g14qr3 => try simp only [Act.put, List.setIfInBounds_toArray, List.set_cons_zero, List.set_cons_succ]
      refine wpAnyH_takeL (i := 4) (v := ?g14qv4) rfl (by kernel_rfl) (by kernel_rfl) (by kernel_rfl) (fun _ _ _ h => h) (Or.inl ⟨by rfl, ?g14qy4⟩) (by assumption) ?g14qr4
      case g14qy4 => first | (intro w hSw; (try dsimp only at hSw); go_simp; done) | (intro w hSw; (try dsimp only at hSw); go_simp; with_reducible rfl)
      case' g14qr4 => try simp only [Act.put, List.setIfInBounds_toArray, List.set_cons_zero, List.set_cons_succ]
      refine wpAnyH_ready (rs := [5]) (by kernel_rfl) (by simp) ?_
      refine AllReadyH.consL rfl (fun K hK => ?_) AllReadyH.nil
      go_simp
      go_at_call 88
      refine (reg_any _ _).mono ?_
      rintro e w5 ⟨rfl, hw5⟩
      subst hw5
      rw [HA.out]
      refine hK.out _ _ (HB.out.ext (Ext.refl w1).drew).conj (fun hSg14q1 => ?_)
      clear hK K
      try simp only [Act.put, List.setIfInBounds_toArray, List.set_cons_zero, List.set_cons_succ]
      refine wpAnyH_takeL (i := 6) (v := ?g14qv6) rfl (by kernel_rfl) (by kernel_rfl) (by kernel_rfl) (fun _ _ _ h => h) (Or.inl ⟨by rfl, ?g14qy6⟩) (by assumption) ?g14qr6
      case g14qy6 => first | (intro w hSw; (try dsimp only at hSw); go_simp; done) | (intro w hSw; (try dsimp only at hSw); go_simp; with_reducible rfl)
      case' g14qr6 => try simp only [Act.put, List.setIfInBounds_toArray, List.set_cons_zero, List.set_cons_succ]
      refine wpAnyH_takeL (i := 7) (v := ?g14qv7) rfl (by kernel_rfl) (by kernel_rfl) (by kernel_rfl) (fun _ _ _ h => h) (Or.inl ⟨by rfl, ?g14qy7⟩) (by assumption) ?g14qr7
      case g14qy7 => first | (intro w hSw; (try dsimp only at hSw); go_simp; done) | (intro w hSw; (try dsimp only at hSw); go_simp; with_reducible rfl)
      case' g14qr7 => try simp only [Act.put, List.setIfInBounds_toArray, List.set_cons_zero, List.set_cons_succ]
      refine wpAnyH_takeL (i := 8) (v := ?g14qv8) rfl (by kernel_rfl) (by kernel_rfl) (by kernel_rfl) (fun _ _ _ h => h) (Or.inl ⟨by rfl, ?g14qy8⟩) (by assumption) ?g14qr8
      case g14qy8 => first | (intro w hSw; (try dsimp only at hSw); go_simp; done) | (intro w hSw; (try dsimp only at hSw); go_simp; with_reducible rfl)
      case' g14qr8 => try simp only [Act.put, List.setIfInBounds_toArray, List.set_cons_zero, List.set_cons_succ]
      refine wpAnyH_takeL (i := 9) (v := ?g14qv9) rfl (by kernel_rfl) (by kernel_rfl) (by kernel_rfl) (fun _ _ _ h => h) (Or.inl ⟨by rfl, ?g14qy9⟩) (by assumption) ?g14qr9
      case g14qy9 => first | (intro w hSw; (try dsimp only at hSw); go_simp; done) | (intro w hSw; (try dsimp only at hSw); go_simp; with_reducible rfl)
      case' g14qr9 => try simp only [Act.put, List.setIfInBounds_toArray, List.set_cons_zero, List.set_cons_succ]
      refine wpAnyH_takeL (i := 10) (v := ?g14qv10) rfl (by kernel_rfl) (by kernel_rfl) (by kernel_rfl) (fun _ _ _ h => h) (Or.inl ⟨by rfl, ?g14qy10⟩) (by assumption) ?g14qr10
      case g14qy10 => first | (intro w hSw; (try dsimp only at hSw); go_simp; done) | (intro w hSw; (try dsimp only at hSw); go_simp; with_reducible rfl)
      case' g14qr10 => try simp only [Act.put, List.setIfInBounds_toArray, List.set_cons_zero, List.set_cons_succ]
      refine wpAnyH_ready (rs := [11]) (by kernel_rfl) (by simp) ?_
      refine AllReadyH.consL rfl (fun K hK => ?_) AllReadyH.nil
      go_simp
      go_at_call 88
      refine (reg_any _ _).mono ?_
      rintro e w5 ⟨rfl, hw5⟩
      subst hw5
      rw [HBB.out]
      refine hK.out _ _ (HB.out.ext (Ext.refl w1).drew).conj (fun hSg14q2 => ?_)
      clear hK K
      try simp only [Act.put, List.setIfInBounds_toArray, List.set_cons_zero, List.set_cons_succ]
      refine wpAnyH_takeL (i := 12) (v := ?g14qv12) rfl (by kernel_rfl) (by kernel_rfl) (by kernel_rfl) (fun _ _ _ h => h) (Or.inl ⟨by rfl, ?g14qy12⟩) (by assumption) ?g14qr12
      case g14qy12 => first | (intro w hSw; (try dsimp only at hSw); go_simp; done) | (intro w hSw; (try dsimp only at hSw); go_simp; with_reducible rfl)
      case' g14qr12 => try simp only [Act.put, List.setIfInBounds_toArray, List.set_cons_zero, List.set_cons_succ]
      refine wpAnyH_takeL (i := 13) (v := ?g14qv13) rfl (by kernel_rfl) (by kernel_rfl) (by kernel_rfl) (fun _ _ _ h => h) (Or.inl ⟨by rfl, ?g14qy13⟩) (by assumption) ?g14qr13
      case g14qy13 => first | (intro w hSw; (try dsimp only at hSw); go_simp; done) | (intro w hSw; (try dsimp only at hSw); go_simp; with_reducible rfl)
      case' g14qr13 => try simp only [Act.put, List.setIfInBounds_toArray, List.set_cons_zero, List.set_cons_succ]
      refine wpAnyH_takeL (i := 14) (v := ?g14qv14) rfl (by kernel_rfl) (by kernel_rfl) (by kernel_rfl) (fun _ _ _ h => h) (Or.inl ⟨by rfl, ?g14qy14⟩) (by assumption) ?g14qr14
      case g14qy14 => first | (intro w hSw; (try dsimp only at hSw); go_simp; done) | (intro w hSw; (try dsimp only at hSw); go_simp; with_reducible rfl)
      case' g14qr14 => try simp only [Act.put, List.setIfInBounds_toArray, List.set_cons_zero, List.set_cons_succ]
      refine wpAnyH_takeL (i := 15) (v := ?g14qv15) rfl (by kernel_rfl) (by kernel_rfl) (by kernel_rfl) (fun _ _ _ h => h) (Or.inl ⟨by rfl, ?g14qy15⟩) (by assumption) ?g14qr15
      case g14qy15 => first | (intro w hSw; (try dsimp only at hSw); go_simp; done) | (intro w hSw; (try dsimp only at hSw); go_simp; with_reducible rfl)
      case' g14qr15 => try simp only [Act.put, List.setIfInBounds_toArray, List.set_cons_zero, List.set_cons_succ]
      refine wpAnyH_takeL (i := 16) (v := ?g14qv16) rfl (by kernel_rfl) (by kernel_rfl) (by kernel_rfl) (fun _ _ _ h => h) (Or.inl ⟨by rfl, ?g14qy16⟩) (by assumption) ?g14qr16
      case g14qy16 => first | (intro w hSw; (try dsimp only at hSw); go_simp; done) | (intro w hSw; (try dsimp only at hSw); go_simp; with_reducible rfl)
      case' g14qr16 => try simp only [Act.put, List.setIfInBounds_toArray, List.set_cons_zero, List.set_cons_succ]
      refine wpAnyH_takeL (i := 18) (v := ?g14qv18) rfl (by kernel_rfl) (by kernel_rfl) (by kernel_rfl) (fun _ _ _ h => h) (Or.inl ⟨by rfl, ?g14qy18⟩) (by assumption) ?g14qr18
      case g14qy18 => first | (intro w hSw; (try dsimp only at hSw); go_simp; done) | (intro w hSw; (try dsimp only at hSw); go_simp; with_reducible rfl)
      case' g14qr18 => try simp only [Act.put, List.setIfInBounds_toArray, List.set_cons_zero, List.set_cons_succ]
      refine wpAnyH_ready (rs := [17]) (by kernel_rfl) (by simp) ?_
      refine AllReadyH.consL rfl (fun K hK => ?_) AllReadyH.nil
      go_simp
      go_at_call 89
      refine (kept_any _ i s HO.out).mono ?_
      rintro e w7 ⟨rfl, hx7⟩
      rw [HK.out]
      have HX7 := hid ((Ext.refl w1).drew.trans hx7)
      clear hx7
      simp only [inV]
      refine hK.out _ _ (HB.out.ext HX7.out).conj (fun hSg14q3 => ?_)
      clear hK K
      try simp only [Act.put, List.setIfInBounds_toArray, List.set_cons_zero, List.set_cons_succ]
      refine wpAnyH_takeL (i := 19) (v := ?g14qv19) rfl (by kernel_rfl) (by kernel_rfl) (by kernel_rfl) (fun _ _ _ h => h) (Or.inl ⟨by rfl, ?g14qy19⟩) (by assumption) ?g14qr19
      case g14qy19 => first | (intro w hSw; (try dsimp only at hSw); go_simp; done) | (intro w hSw; (try dsimp only at hSw); go_simp; with_reducible rfl)
      case' g14qr19 => try simp only [Act.put, List.setIfInBounds_toArray, List.set_cons_zero, List.set_cons_succ]
      refine wpAnyH_takeL (i := 20) (v := ?g14qv20) rfl (by kernel_rfl) (by kernel_rfl) (by kernel_rfl) (fun _ _ _ h => h) (Or.inl ⟨by rfl, ?g14qy20⟩) (by assumption) ?g14qr20
      case g14qy20 => first | (intro w hSw; (try dsimp only at hSw); go_simp; done) | (intro w hSw; (try dsimp only at hSw); go_simp; with_reducible rfl)
      case' g14qr20 => try simp only [Act.put, List.setIfInBounds_toArray, List.set_cons_zero, List.set_cons_succ]
      refine wpAnyH_done (by kernel_rfl) ?_ _
      clear heq
      go_wp2
      go_ret3
      exact chk_bad 2 (by omega) HER.out (HE.out.trans (HX1.out.trans HX7.out)) (by simp)
    | true =>
      go_wp2_with fail
      refine wp_region_held_drew (S := (fun w' => w'.cell? ⟨w.heap.size, 0, none⟩ = some (.int .u32 i.addr) ∧ w'.cell? ⟨w.heap.size, 1, none⟩ = some (.int .u32 i.imm) ∧ w'.cell? ⟨w.heap.size, 2, none⟩ = some (.int .i64 i.op) ∧ w'.cell? ⟨w.heap.size, 3, none⟩ = some (.int .i64 i.form) ∧ w'.cell? ⟨w.heap.size, 4, none⟩ = some (.int .i64 i.width) ∧ w'.cell? ⟨w.heap.size, 5, none⟩ = some (.int .i64 i.cc) ∧ w'.cell? ⟨w.heap.size, 6, none⟩ = some (.int .i64 i.a) ∧ w'.cell? ⟨w.heap.size, 7, none⟩ = some (.int .i64 i.b) ∧ w'.cell? ⟨w.heap.size, 8, none⟩ = some (.int .i64 i.size))) (by kernel_rfl) (HB.out.ext (Ext.refl w1).drew).conj (fun hSg15q0 => ?_)
      refine wpAnyH_takeL (i := 0) (v := ?g15qv0) rfl (by kernel_rfl) (by kernel_rfl) (by kernel_rfl) (fun _ _ _ h => h) (Or.inl ⟨by rfl, ?g15qy0⟩) (by assumption) ?g15qr0
      case g15qy0 => first | (intro w hSw; (try dsimp only at hSw); go_simp; done) | (intro w hSw; (try dsimp only at hSw); go_simp; with_reducible rfl)
      case' g15qr0 => try simp only [Act.put, List.setIfInBounds_toArray, List.set_cons_zero, List.set_cons_succ]
      refine wpAnyH_takeL (i := 1) (v := ?g15qv1) rfl (by kernel_rfl) (by kernel_rfl) (by kernel_rfl) (fun _ _ _ h => h) (Or.inl ⟨by rfl, ?g15qy1⟩) (by assumption) ?g15qr1
      case g15qy1 => first | (intro w hSw; (try dsimp only at hSw); go_simp; done) | (intro w hSw; (try dsimp only at hSw); go_simp; with_reducible rfl)
      case' g15qr1 => try simp only [Act.put, List.setIfInBounds_toArray, List.set_cons_zero, List.set_cons_succ]
      refine wpAnyH_takeL (i := 2) (v := ?g15qv2) rfl (by kernel_rfl) (by kernel_rfl) (by kernel_rfl) (fun _ _ _ h => h) (Or.inl ⟨by rfl, ?g15qy2⟩) (by assumption) ?g15qr2
      case g15qy2 => first | (intro w hSw; (try dsimp only at hSw); go_simp; done) | (intro w hSw; (try dsimp only at hSw); go_simp; with_reducible rfl)
      case' g15qr2 => try simp only [Act.put, List.setIfInBounds_toArray, List.set_cons_zero, List.set_cons_succ]
      refine wpAnyH_takeL (i := 3) (v := ?g15qv3) rfl (by kernel_rfl) (by kernel_rfl) (by kernel_rfl) (fun _ _ _ h => h) (Or.inl ⟨by rfl, ?g15qy3⟩) (by assumption) ?g15qr3
      case g15qy3 => first | (intro w hSw; (try dsimp only at hSw); go_simp; done) | (intro w hSw; (try dsimp only at hSw); go_simp; with_reducible rfl)
      case' g15qr3 => try simp only [Act.put, List.setIfInBounds_toArray, List.set_cons_zero, List.set_cons_succ]
      refine wpAnyH_takeL (i := 4) (v := ?g15qv4) rfl (by kernel_rfl) (by kernel_rfl) (by kernel_rfl) (fun _ _ _ h => h) (Or.inl ⟨by rfl, ?g15qy4⟩) (by assumption) ?g15qr4
      case g15qy4 => first | (intro w hSw; (try dsimp only at hSw); go_simp; done) | (intro w hSw; (try dsimp only at hSw); go_simp; with_reducible rfl)
      case' g15qr4 => try simp only [Act.put, List.setIfInBounds_toArray, List.set_cons_zero, List.set_cons_succ]
      refine wpAnyH_ready (rs := [5]) (by kernel_rfl) (by simp) ?_
      refine AllReadyH.consL rfl (fun K hK => ?_) AllReadyH.nil
      go_simp
      go_at_call 88
      refine (reg_any _ _).mono ?_
      rintro e w5 ⟨rfl, hw5⟩
      subst hw5
      rw [HA.out]
      refine hK.out _ _ (HB.out.ext (Ext.refl w1).drew).conj (fun hSg15q1 => ?_)
      clear hK K
      try simp only [Act.put, List.setIfInBounds_toArray, List.set_cons_zero, List.set_cons_succ]
      refine wpAnyH_takeL (i := 6) (v := ?g15qv6) rfl (by kernel_rfl) (by kernel_rfl) (by kernel_rfl) (fun _ _ _ h => h) (Or.inl ⟨by rfl, ?g15qy6⟩) (by assumption) ?g15qr6
      case g15qy6 => first | (intro w hSw; (try dsimp only at hSw); go_simp; done) | (intro w hSw; (try dsimp only at hSw); go_simp; with_reducible rfl)
      case' g15qr6 => try simp only [Act.put, List.setIfInBounds_toArray, List.set_cons_zero, List.set_cons_succ]
      refine wpAnyH_takeL (i := 7) (v := ?g15qv7) rfl (by kernel_rfl) (by kernel_rfl) (by kernel_rfl) (fun _ _ _ h => h) (Or.inl ⟨by rfl, ?g15qy7⟩) (by assumption) ?g15qr7
      case g15qy7 => first | (intro w hSw; (try dsimp only at hSw); go_simp; done) | (intro w hSw; (try dsimp only at hSw); go_simp; with_reducible rfl)
      case' g15qr7 => try simp only [Act.put, List.setIfInBounds_toArray, List.set_cons_zero, List.set_cons_succ]
      refine wpAnyH_takeL (i := 8) (v := ?g15qv8) rfl (by kernel_rfl) (by kernel_rfl) (by kernel_rfl) (fun _ _ _ h => h) (Or.inl ⟨by rfl, ?g15qy8⟩) (by assumption) ?g15qr8
      case g15qy8 => first | (intro w hSw; (try dsimp only at hSw); go_simp; done) | (intro w hSw; (try dsimp only at hSw); go_simp; with_reducible rfl)
      case' g15qr8 => try simp only [Act.put, List.setIfInBounds_toArray, List.set_cons_zero, List.set_cons_succ]
      refine wpAnyH_takeL (i := 9) (v := ?g15qv9) rfl (by kernel_rfl) (by kernel_rfl) (by kernel_rfl) (fun _ _ _ h => h) (Or.inl ⟨by rfl, ?g15qy9⟩) (by assumption) ?g15qr9
      case g15qy9 => first | (intro w hSw; (try dsimp only at hSw); go_simp; done) | (intro w hSw; (try dsimp only at hSw); go_simp; with_reducible rfl)
      case' g15qr9 => try simp only [Act.put, List.setIfInBounds_toArray, List.set_cons_zero, List.set_cons_succ]
      refine wpAnyH_takeL (i := 10) (v := ?g15qv10) rfl (by kernel_rfl) (by kernel_rfl) (by kernel_rfl) (fun _ _ _ h => h) (Or.inl ⟨by rfl, ?g15qy10⟩) (by assumption) ?g15qr10
      case g15qy10 => first | (intro w hSw; (try dsimp only at hSw); go_simp; done) | (intro w hSw; (try dsimp only at hSw); go_simp; with_reducible rfl)
      case' g15qr10 => try simp only [Act.put, List.setIfInBounds_toArray, List.set_cons_zero, List.set_cons_succ]
      refine wpAnyH_ready (rs := [11]) (by kernel_rfl) (by simp) ?_
      refine AllReadyH.consL rfl (fun K hK => ?_) AllReadyH.nil
      go_simp
      go_at_call 88
      refine (reg_any _ _).mono ?_
      rintro e w5 ⟨rfl, hw5⟩
      subst hw5
      rw [HBB.out]
      refine hK.out _ _ (HB.out.ext (Ext.refl w1).drew).conj (fun hSg15q2 => ?_)
      clear hK K
      try simp only [Act.put, List.setIfInBounds_toArray, List.set_cons_zero, List.set_cons_succ]
      refine wpAnyH_takeL (i := 12) (v := ?g15qv12) rfl (by kernel_rfl) (by kernel_rfl) (by kernel_rfl) (fun _ _ _ h => h) (Or.inl ⟨by rfl, ?g15qy12⟩) (by assumption) ?g15qr12
      case g15qy12 => first | (intro w hSw; (try dsimp only at hSw); go_simp; done) | (intro w hSw; (try dsimp only at hSw); go_simp; with_reducible rfl)
      case' g15qr12 => try simp only [Act.put, List.setIfInBounds_toArray, List.set_cons_zero, List.set_cons_succ]
      refine wpAnyH_takeL (i := 13) (v := ?g15qv13) rfl (by kernel_rfl) (by kernel_rfl) (by kernel_rfl) (fun _ _ _ h => h) (Or.inl ⟨by rfl, ?g15qy13⟩) (by assumption) ?g15qr13
      case g15qy13 => first | (intro w hSw; (try dsimp only at hSw); go_simp; done) | (intro w hSw; (try dsimp only at hSw); go_simp; with_reducible rfl)
      case' g15qr13 => try simp only [Act.put, List.setIfInBounds_toArray, List.set_cons_zero, List.set_cons_succ]
      refine wpAnyH_takeL (i := 14) (v := ?g15qv14) rfl (by kernel_rfl) (by kernel_rfl) (by kernel_rfl) (fun _ _ _ h => h) (Or.inl ⟨by rfl, ?g15qy14⟩) (by assumption) ?g15qr14
      case g15qy14 => first | (intro w hSw; (try dsimp only at hSw); go_simp; done) | (intro w hSw; (try dsimp only at hSw); go_simp; with_reducible rfl)
      case' g15qr14 => try simp only [Act.put, List.setIfInBounds_toArray, List.set_cons_zero, List.set_cons_succ]
      refine wpAnyH_takeL (i := 15) (v := ?g15qv15) rfl (by kernel_rfl) (by kernel_rfl) (by kernel_rfl) (fun _ _ _ h => h) (Or.inl ⟨by rfl, ?g15qy15⟩) (by assumption) ?g15qr15
      case g15qy15 => first | (intro w hSw; (try dsimp only at hSw); go_simp; done) | (intro w hSw; (try dsimp only at hSw); go_simp; with_reducible rfl)
      case' g15qr15 => try simp only [Act.put, List.setIfInBounds_toArray, List.set_cons_zero, List.set_cons_succ]
      refine wpAnyH_takeL (i := 16) (v := ?g15qv16) rfl (by kernel_rfl) (by kernel_rfl) (by kernel_rfl) (fun _ _ _ h => h) (Or.inl ⟨by rfl, ?g15qy16⟩) (by assumption) ?g15qr16
      case g15qy16 => first | (intro w hSw; (try dsimp only at hSw); go_simp; done) | (intro w hSw; (try dsimp only at hSw); go_simp; with_reducible rfl)
      case' g15qr16 => try simp only [Act.put, List.setIfInBounds_toArray, List.set_cons_zero, List.set_cons_succ]
      refine wpAnyH_takeL (i := 18) (v := ?g15qv18) rfl (by kernel_rfl) (by kernel_rfl) (by kernel_rfl) (fun _ _ _ h => h) (Or.inl ⟨by rfl, ?g15qy18⟩) (by assumption) ?g15qr18
      case g15qy18 => first | (intro w hSw; (try dsimp only at hSw); go_simp; done) | (intro w hSw; (try dsimp only at hSw); go_simp; with_reducible rfl)
      case' g15qr18 => try simp only [Act.put, List.setIfInBounds_toArray, List.set_cons_zero, List.set_cons_succ]
      refine wpAnyH_ready (rs := [17]) (by kernel_rfl) (by simp) ?_
      refine AllReadyH.consL rfl (fun K hK => ?_) AllReadyH.nil
      go_simp
      go_at_call 89
      refine (kept_any _ i s HO.out).mono ?_
      rintro e w7 ⟨rfl, hx7⟩
      rw [HK.out]
      have HX7 := hid ((Ext.refl w1).drew.trans hx7)
      clear hx7
      simp only [inV]
      refine hK.out _ _ (HB.out.ext HX7.out).conj (fun hSg15q3 => ?_)
      clear hK K
      try simp only [Act.put, List.setIfInBounds_toArray, List.set_cons_zero, List.set_cons_succ]
      refine wpAnyH_takeL (i := 19) (v := ?g15qv19) rfl (by kernel_rfl) (by kernel_rfl) (by kernel_rfl) (fun _ _ _ h => h) (Or.inl ⟨by rfl, ?g15qy19⟩) (by assumption) ?g15qr19
      case g15qy19 => first | (intro w hSw; (try dsimp only at hSw); go_simp; done) | (intro w hSw; (try dsimp only at hSw); go_simp; with_reducible rfl)
      case' g15qr19 => try simp only [Act.put, List.setIfInBounds_toArray, List.set_cons_zero, List.set_cons_succ]
      refine wpAnyH_takeL (i := 20) (v := ?g15qv20) rfl (by kernel_rfl) (by kernel_rfl) (by kernel_rfl) (fun _ _ _ h => h) (Or.inl ⟨by rfl, ?g15qy20⟩) (by assumption) ?g15qr20
      case g15qy20 => first | (intro w hSw; (try dsimp only at hSw); go_simp; done) | (intro w hSw; (try dsimp only at hSw); go_simp; with_reducible rfl)
      case' g15qr20 => try simp only [Act.put, List.setIfInBounds_toArray, List.set_cons_zero, List.set_cons_succ]
      refine wpAnyH_done (by kernel_rfl) ?_ _
      clear heq
      have HKI : Hid (¬ (regB i.a = false ∨ regB i.b = false ∨ keptI i s ≠ i)) := hid (by
        have h := of_decide_eq_true HD.out
        rw [HA.out, HBB.out, HK.out]
        simp [h])
      have her : isaErr i = if ((s = 4 ∨ s = 5) ∧ narrowB i.imm = false) ∨ (s = 7 ∧ narrowB (w32d ((i.imm : Int) - i.addr - 2)) = false) then 7 else 0 := by
        unfold isaErr
        rw [HO.out]
        simp only []
        rw [if_neg HKI.out]
      have HER := hid her
      have HEE := hid (HE.out.trans (HX1.out.trans HX7.out))
      obtain ⟨c0, c1, c2, c3, c4, c5, c6, c7, c8⟩ := HB.out.ext HX7.out
      clear her c2 c3 c4 c5 c6 c7 c8
      by_cases h4 : s = 4 ∨ s = 5
      · obtain ⟨d, hd⟩ : ∃ d, narrowB i.imm = d := ⟨_, rfl⟩
        have HN := hid hd
        clear hd
        cases d with
        | false =>
          have HE2 : Hid (isaErr i = 7) := hid (by rw [HER.out, if_pos (.inl ⟨h4, HN.out⟩)])
          rcases h4 with rfl | rfl
          all_goals
            go_wp2_with fail
            refine (narrow_any _ _).mono ?_
            rintro e w9 ⟨rfl, hw9⟩
            subst hw9
            rw [HN.out]
            go_wp2
            go_ret3
            exact chk_bad 7 (by omega) HE2.out HEE.out (by simp)
        | true =>
          have HE2 : Hid (isaErr i = 0) := hid (by rw [HER.out, if_neg (by rintro (⟨-, h⟩ | ⟨h, -⟩) <;> first | omega | (rw [HN.out] at h; cases h))])
          rcases h4 with rfl | rfl
          · go_wp2_with fail
            refine (narrow_any _ _).mono ?_
            rintro e w9 ⟨rfl, hw9⟩
            subst hw9
            rw [HN.out]
            go_wp2
            go_ret3
            exact chk_ok (c := c) (s := 4) HE2.out HO.out HEE.out (by simp)
          · go_wp2_with fail
            refine (narrow_any _ _).mono ?_
            rintro e w9 ⟨rfl, hw9⟩
            subst hw9
            rw [HN.out]
            go_wp2
            go_ret3
            exact chk_ok (c := c) (s := 5) HE2.out HO.out HEE.out (by simp)
      · have n4 : ((s : Int) == 4) = false := by simp; omega
        have n5 : ((s : Int) == 5) = false := by simp; omega
        have HN4 := hid h4
        clear h4
        by_cases h7 : s = 7
        · subst h7
          clear n4 n5
          obtain ⟨z, hz⟩ : ∃ z, w32d ((i.imm : Int) - i.addr - 2) = z := ⟨_, rfl⟩
          have e7 : ((i.imm : Int) - (i.addr : Int) - 2) % 4294967296 = (z : Int) := by
            rw [← hz]
            unfold w32d
            omega
          have HE7 := hid e7
          clear e7
          obtain ⟨d, hd⟩ : ∃ d, narrowB z = d := ⟨_, rfl⟩
          have HN := hid hd
          have HZZ := hid hz
          clear hd hz
          cases d with
          | false =>
            have HE2 : Hid (isaErr i = 7) := hid (by rw [HER.out, if_pos (.inr ⟨rfl, by rw [HZZ.out]; exact HN.out⟩)])
            go_wp2_with fail
            rw [HE7.out]
            refine (narrow_any _ _).mono ?_
            rintro e w9 ⟨rfl, hw9⟩
            subst hw9
            rw [HN.out]
            go_wp2
            go_ret3
            exact chk_bad 7 (by omega) HE2.out HEE.out (by simp)
          | true =>
            have HE2 : Hid (isaErr i = 0) := hid (by rw [HER.out, HZZ.out, HN.out]; simp)
            go_wp2_with fail
            rw [HE7.out]
            refine (narrow_any _ _).mono ?_
            rintro e w9 ⟨rfl, hw9⟩
            subst hw9
            rw [HN.out]
            go_wp2
            go_ret3
            exact chk_ok (c := c) (s := 7) HE2.out HO.out HEE.out (by simp)
        · have n7 : ((s : Int) == 7) = false := by simp; omega
          have HE2 : Hid (isaErr i = 0) := hid (by rw [HER.out, if_neg]; have := HN4.out; omega)
          clear h7
          go_wp2
          go_ret3
          exact chk_ok (c := c) (s := s) HE2.out HO.out HEE.out (by simp)
end Go.Proofs.Ytolbnhkdpbdhhaa
