/- maps.Clone, slices.Clone at regions, and the memory's Clone. -/
import Derived.Test.YtjfdbfbdkjfgpaaMemG
import Derived.Test.YtjfdbfbdkjfgpaaMemE
import Derived.Test.YtjfdbfbdkjfgpaaReg
import Derived.Shelf.SlMaps.Clone
namespace Go.Proofs.Ytjfdbfbdkjfgpaa
open Go.RowKit Go.Deco Go.Maps
set_option linter.unusedSimpArgs false
set_option linter.unusedVariables false

set_option maxRecDepth 100000 in
set_option maxHeartbeats 2000000 in
theorem mapsClone_any (b : Nat) (es : Array MapEntry) (clock : Nat) (w : World) (hb : w.heap[b]? = some (.map es clock)) :
    Calls Try.prog 46 #[.map (some b)] w fun e w' => e = .returned (.map (some w.heap.size)) ∧ w' = w.alloc (.map es clock) := by
  have hq := fun w => run_eql_map_nil_sl (P := Try.prog) w 61 23 5 (some b) Try.underlying61
  go_enter Try.func46, Try.ntmps46
  go_wp2
  rw [run_callFunc_extern Try.func61 (by kernel_rfl) (by kernel_rfl) (by kernel_rfl) (e := Extern.MapsClone.clone) (by kernel_rfl), run_maps_clone_sl w 61 hb]
  simp only [Result.andThen]
  rw [Oper.upon_value]
  go_wp2
  rw [run_typeAssert_map_sl _ 61 20 _ _ _ Try.underlying61]
  simp only [Result.andThen]
  rw [Oper.upon_value]
  go_wp2
  go_ret
  exact ⟨rfl, rfl⟩

def RegsPost (w : World) (l : List Reg) (e : Ending) (w' : World) : Prop := Ext w w' ∧ ∃ A c, e = .returned (.slice A l.length c) ∧ Sl regR w' All (.slice A l.length c) l

set_option maxRecDepth 100000 in
set_option maxHeartbeats 1000000 in
theorem cloneRegs_any (w : World) (A : Option Addr) (n c : Nat) (l : List Reg) (hl : Sl regR w All (.slice A n c) l) (hn : n ≤ 1000000) :
    Calls Try.prog 45 #[.slice A n c] w (RegsPost w l) := by
  have hln := hl.len
  have hz := fun (w : World) (a : Option Addr) (n c : Nat) => Lib.run_eql_slice_nil (P := Try.prog) w 60 74 a n c 0 0 Try.underlying60
  obtain ⟨i0, hi, hz0, hz1, hz2⟩ := info_parts info_reg
  rcases A with _ | a
  · have hne : l = [] := by
      cases l with
      | nil => rfl
      | cons y ys =>
        obtain ⟨b, off, h⟩ := hl.at0 (by rw [hl.len]; simp)
        cases h
    have hn0 : n = 0 := by rw [hln, hne]; rfl
    subst hne
    subst hn0
    clear hi hl hln hn
    go_enter Try.func45, Try.ntmps45
    go_wp2
    go_ret
    exact ⟨Ext.refl w, none, 0, rfl, Sl.nil⟩
  · have HL := hid hl; clear hl
    have HLN := hid hln; clear hln
    have HN := hid hn; clear hn
    go_enter Try.func45, Try.ntmps45
    go_wp2_with (at_builtin; go_loud (refine wpList_appS rfl (.tmp 5) (.tmp 6) 60 rfl w.heap.size 74 i0 _ 4 40 Try.underlying60 hi hz0 hz1 hz2 rfl regR rfl _ [] rfl (OwnS.fresh0 (T := All) w (Nat.le_refl _)) (some a) n c l (fun b => b < w.heap.size) rfl ((HL.out.mono (fun b _ h => h.lt)).ext ((Ext.refl w).alloc _)) (fun _ hb _ => ⟨trivial, own_ne hb⟩) (by have := HN.out; simp; omega) (by have := HN.out; simp; omega) (by simp) ?_); intro A' c' W' hown hg hloc; have HO := hid hown; clear hown; have HG := hid hg; clear hg; clear hloc)
    go_ret
    refine ⟨((Ext.refl w).alloc _).grown HG.out (fun k hk => by rw [own_at hk]; simp), A', c', by rw [← HLN.out]; simp, ?_⟩
    have ho := HO.out.sl
    rw [← HLN.out]
    simpa using ho

def ClonePost (w : World) (regs : List Reg) (M : Nat → Option Nat) (n : Nat) (e : Ending) (w' : World) : Prop :=
  Ext w w' ∧ ∃ mb bm, e = .returned (.pointer (some ⟨mb, 0, none⟩)) ∧ w.heap.size ≤ mb ∧ w.heap.size ≤ bm ∧ Mem w' mb bm regs M n

set_option maxRecDepth 100000 in
set_option maxHeartbeats 2000000 in
theorem mclone_any (w : World) (mb bm n : Nat) (regs : List Reg) (M : Nat → Option Nat) (hm : Mem w mb bm regs M n) (hr : regs.length ≤ 1000000) :
    Calls Try.prog 26 #[.pointer (some ⟨mb, 0, none⟩)] w (ClonePost w regs M n) := by
  have HM := hid hm
  obtain ⟨rA, rc, D, q0, q1, q2, q3, q4⟩ := hm
  have HQ2 := hid q2
  have HQ3 := hid q3
  have HQ4 := hid q4
  clear q2 q3 q4
  go_enter Try.func26, Try.ntmps26
  go_wp2_with fail
  refine (made_any _ mb bm n regs M HM.out).mono ?_
  rintro e w' ⟨rfl, rfl⟩
  go_wp2_with fail
  refine wp_region_held_drew (S := (fun w' => w'.cell? ⟨mb, 0, none⟩ = some (.slice rA regs.length rc) ∧ w'.cell? ⟨mb, 1, none⟩ = some (.map (some bm)))) (by kernel_rfl) ⟨q0, q1⟩ (fun hSR0 => ?_)
  refine wpAnyH_takeL (i := 0) (v := ?Rv0) rfl (by kernel_rfl) (by kernel_rfl) (by kernel_rfl) (fun _ _ _ h => h) (Or.inl ⟨by rfl, ?Ry0⟩) (by assumption) ?Rr0
  case Ry0 => first | (intro w hSw; (try dsimp only at hSw); go_simp; done) | (intro w hSw; (try dsimp only at hSw); go_simp; with_reducible rfl)
  case' Rr0 => try simp only [Act.put, List.setIfInBounds_toArray, List.set_cons_zero, List.set_cons_succ]
  refine wpAnyH_takeL (i := 1) (v := ?Rv1) rfl (by kernel_rfl) (by kernel_rfl) (by kernel_rfl) (fun _ _ _ h => h) (Or.inl ⟨by rfl, ?Ry1⟩) (by assumption) ?Rr1
  case Ry1 => first | (intro w hSw; (try dsimp only at hSw); go_simp; done) | (intro w hSw; (try dsimp only at hSw); go_simp; with_reducible rfl)
  case' Rr1 => try simp only [Act.put, List.setIfInBounds_toArray, List.set_cons_zero, List.set_cons_succ]
  refine wpAnyH_takeL (i := 2) (v := ?Rv2) rfl (by kernel_rfl) (by kernel_rfl) (by kernel_rfl) (fun _ _ _ h => h) (Or.inl ⟨by rfl, ?Ry2⟩) (by assumption) ?Rr2
  case Ry2 => first | (intro w hSw; (try dsimp only at hSw); go_simp; done) | (intro w hSw; (try dsimp only at hSw); go_simp; with_reducible rfl)
  case' Rr2 => try simp only [Act.put, List.setIfInBounds_toArray, List.set_cons_zero, List.set_cons_succ]
  refine wpAnyH_takeL (i := 3) (v := ?Rv3) rfl (by kernel_rfl) (by kernel_rfl) (by kernel_rfl) (fun _ _ _ h => h) (Or.inl ⟨by rfl, ?Ry3⟩) (by assumption) ?Rr3
  case Ry3 => first | (intro w hSw; (try dsimp only at hSw); go_simp; done) | (intro w hSw; (try dsimp only at hSw); go_simp; with_reducible rfl)
  case' Rr3 => try simp only [Act.put, List.setIfInBounds_toArray, List.set_cons_zero, List.set_cons_succ]
  refine wpAnyH_takeL (i := 5) (v := ?Rv5) rfl (by kernel_rfl) (by kernel_rfl) (by kernel_rfl) (fun _ _ _ h => h) (Or.inl ⟨by rfl, ?Ry5⟩) (by assumption) ?Rr5
  case Ry5 => first | (intro w hSw; (try dsimp only at hSw); go_simp; done) | (intro w hSw; (try dsimp only at hSw); go_simp; with_reducible rfl)
  case' Rr5 => try simp only [Act.put, List.setIfInBounds_toArray, List.set_cons_zero, List.set_cons_succ]
  refine wpAnyH_takeL (i := 6) (v := ?Rv6) rfl (by kernel_rfl) (by kernel_rfl) (by kernel_rfl) (fun _ _ _ h => h) (Or.inl ⟨by rfl, ?Ry6⟩) (by assumption) ?Rr6
  case Ry6 => first | (intro w hSw; (try dsimp only at hSw); go_simp; done) | (intro w hSw; (try dsimp only at hSw); go_simp; with_reducible rfl)
  case' Rr6 => try simp only [Act.put, List.setIfInBounds_toArray, List.set_cons_zero, List.set_cons_succ]
  refine wpAnyH_takeL (i := 7) (v := ?Rv7) rfl (by kernel_rfl) (by kernel_rfl) (by kernel_rfl) (fun _ _ _ h => h) (Or.inl ⟨by rfl, ?Ry7⟩) (by assumption) ?Rr7
  case Ry7 => first | (intro w hSw; (try dsimp only at hSw); go_simp; done) | (intro w hSw; (try dsimp only at hSw); go_simp; with_reducible rfl)
  case' Rr7 => try simp only [Act.put, List.setIfInBounds_toArray, List.set_cons_zero, List.set_cons_succ]
  refine wpAnyH_takeL (i := 8) (v := ?Rv8) rfl (by kernel_rfl) (by kernel_rfl) (by kernel_rfl) (fun _ _ _ h => h) (Or.inl ⟨by rfl, ?Ry8⟩) (by assumption) ?Rr8
  case Ry8 => first | (intro w hSw; (try dsimp only at hSw); go_simp; done) | (intro w hSw; (try dsimp only at hSw); go_simp; with_reducible rfl)
  case' Rr8 => try simp only [Act.put, List.setIfInBounds_toArray, List.set_cons_zero, List.set_cons_succ]
  refine wpAnyH_ready (rs := [4]) (by kernel_rfl) (by simp) ?_
  refine AllReadyH.consL rfl (fun K hK => ?_) AllReadyH.nil
  go_simp
  go_at_call 45
  refine (cloneRegs_any _ rA regs.length rc regs (HQ2.out.ext ((Ext.refl _).drew)) hr).mono ?_
  rintro e w1 ⟨hx1, A1, c1, rfl, hs1⟩
  have HX1 := hid hx1.drew_left
  have HS1 := hid hs1
  clear hx1 hs1
  refine hK.out _ _ ⟨HX1.out.cell q0, HX1.out.cell q1⟩ (fun hSR1 => ?_)
  clear hK K
  try simp only [Act.put, List.setIfInBounds_toArray, List.set_cons_zero, List.set_cons_succ]
  refine wpAnyH_ready (rs := [9]) (by kernel_rfl) (by simp) ?_
  refine AllReadyH.consL rfl (fun K hK => ?_) AllReadyH.nil
  go_simp
  go_at_call 46
  have ho1 := HQ3.out.kept (HX1.out.grownBy none) (by simp)
  obtain ⟨es, clock, hb, F, hs, hD⟩ := ho1
  refine (mapsClone_any bm es clock w1 hb).mono ?_
  rintro e w2 ⟨rfl, rfl⟩
  have HO2 : Hid ((w1.alloc (.map es clock)).ownsMap Try.prog 23 (plainElem (H := Unit) Try.prog 5) w1.heap.size n D) := hid ⟨es, clock, (MapKept.heap_alloc w1 _).1, F, hs, hD⟩
  have HX2 := hid (HX1.out.alloc (.map es clock))
  have HX12 := hid ((Ext.refl w1).alloc (.map es clock))
  clear hb F hs hD
  refine hK.out _ _ ⟨HX2.out.cell q0, HX2.out.cell q1⟩ (fun hSR2 => ?_)
  clear hK K
  try simp only [Act.put, List.setIfInBounds_toArray, List.set_cons_zero, List.set_cons_succ]
  refine wpAnyH_takeL (i := 10) (v := ?Rv10) rfl (by kernel_rfl) (by kernel_rfl) (by kernel_rfl) (fun _ _ _ h => h) (Or.inl ⟨by rfl, ?Ry10⟩) (by assumption) ?Rr10
  case Ry10 => first | (intro w hSw; (try dsimp only at hSw); go_simp; done) | (intro w hSw; (try dsimp only at hSw); go_simp; with_reducible rfl)
  case' Rr10 => try simp only [Act.put, List.setIfInBounds_toArray, List.set_cons_zero, List.set_cons_succ]
  refine wpAnyH_ready (rs := [11]) (by kernel_rfl) (by simp) ?_
  refine AllReadyH.consL rfl (fun K hK => ?_) AllReadyH.nil
  go_simp
  refine hK.out _ _ ⟨(HX2.out.alloc _).cell q0, (HX2.out.alloc _).cell q1⟩ (fun hSR3 => ?_)
  clear hK K
  try simp only [Act.put, List.setIfInBounds_toArray, List.set_cons_zero, List.set_cons_succ]
  refine wpAnyH_takeL (i := 12) (v := ?Rv12) rfl (by kernel_rfl) (by kernel_rfl) (by kernel_rfl) (fun _ _ _ h => h) (Or.inl ⟨by rfl, ?Ry12⟩) (by assumption) ?Rr12
  case Ry12 => first | (intro w hSw; (try dsimp only at hSw); go_simp; done) | (intro w hSw; (try dsimp only at hSw); go_simp; with_reducible rfl)
  case' Rr12 => try simp only [Act.put, List.setIfInBounds_toArray, List.set_cons_zero, List.set_cons_succ]
  refine wpAnyH_done (by kernel_rfl) ?_ _
  go_wp2
  go_ret
  refine ⟨HX2.out.alloc _, w1.heap.size + 1, w1.heap.size, by simp, by have := HX1.out.size; omega, HX1.out.size, A1, c1, D, ?_, ?_, ?_, ?_, HQ4.out⟩
  · simp
  · simp
  · exact HS1.out.ext (HX12.out.alloc _)
  · exact HO2.out.kept (((Ext.refl _).alloc _).grownBy none) (by simp)
end Go.Proofs.Ytjfdbfbdkjfgpaa
