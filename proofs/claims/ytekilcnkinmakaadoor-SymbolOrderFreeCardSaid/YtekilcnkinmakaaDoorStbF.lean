/- symbol.Sorted: the stable order of symbols. -/
import Derived.Test.YtekilcnkinmakaaDoorStbE
import Derived.Test.YtekilcnkinmakaaDoorSlc
import Derived.Lib.SliceRun
namespace Go.Proofs.YtekilcnkinmakaaDoor
open Go.RowKit Go.Deco
set_option linter.unusedSimpArgs false
set_option linter.unusedVariables false

theorem info_symF : (Tryd.prog.info? 27).map (fun i => (i.zero, i.size, i.bytes)) = some (some (.agg #[.string ⟨#[]⟩, .int .u32 0, .int .i64 0]), 3, 32) := by kernel_rfl
def Cloned {E : Type} (R : Rep E) (t : TypeId) (w : World) (n : Nat) (l : List E) (e : Ending) (w' : World) : Prop := ∃ A c, e = .returned (.slice A n c) ∧ OwnS R w' w.heap.size t All (.slice A n c) l ∧ Ext w w'
set_option maxRecDepth 100000 in
set_option maxHeartbeats 400000 in
theorem clonesy_any (w : World) (S : Nat → Prop) (A : Option Addr) (n c : Nat) (l : List Sy) (hl : Sl symR w S (.slice A n c) l) (hn : n ≤ 1000000) :
    Calls Tryd.prog 38 #[.slice A n c] w (Cloned symR 27 w n l) := by
  have hz := fun (w : World) (a : Option Addr) (n c : Nat) => Lib.run_eql_slice_nil (P := Tryd.prog) w 22 27 a n c 0 0 Tryd.underlying22
  obtain ⟨i0, hi, hz0, hz1, hz2⟩ := info_parts info_symF
  have HL := hid hl; clear hl
  rcases A with _ | a
  · obtain rfl : l = [] := by
      cases l with
      | nil => rfl
      | cons y ys =>
        obtain ⟨b, off, h⟩ := HL.out.at0 (by rw [HL.out.len]; simp)
        cases h
    obtain rfl : n = 0 := HL.out.len
    go_enter Tryd.func38, Tryd.ntmps38
    go_wp2
    go_ret
    exact ⟨none, 0, rfl, OwnS.nil, Ext.refl w⟩
  · go_enter Tryd.func38, Tryd.ntmps38
    go_wp2_with (at_builtin; refine wpList_appS rfl (.tmp 5) (.tmp 6) 22 rfl w.heap.size 27 i0 _ 3 32 Tryd.underlying22 hi hz0 hz1 hz2 rfl symR rfl _ [] rfl (OwnS.fresh0 (T := All) w (Nat.le_refl _)) (some a) n c l (fun b => b < w.heap.size) rfl ((HL.out.mono (fun b _ h => h.lt)).ext ((Ext.refl w).alloc _)) (fun _ hb _ => ⟨trivial, own_ne hb⟩) (by simp; omega) (by simp; omega) (by simp) ?_; intro A' c' W' hown hg hloc; have HO := hid hown; clear hown; have HG := hid hg; clear hg; clear hloc)
    go_ret
    exact ⟨A', c', by simp, by simpa using HO.out, ((Ext.refl w).alloc _).grown HG.out (fun k hk => by rw [own_at hk]; simp)⟩

def Nowt (w : World) (e : Ending) (w' : World) : Prop := e = .returned (.tuple #[]) ∧ w = w'
set_option maxRecDepth 100000 in
set_option maxHeartbeats 1000000 in
theorem insc0 (w : World) (A : Option Addr) (c : Nat) (F : Value) : Calls Tryd.prog 62 #[.slice A 0 c, .int .i64 0, .int .i64 0, F] w (Nowt w) := by
  go_enter Tryd.func62, Tryd.ntmps62
  go_wp2
  go_loop [8] (fun i => i = .int .i64 1) (fun i => 0)
  case atStart => rfl
  case round =>
    obtain rfl := hrel
    go_wp2
    (try simp only [Exit.inBlock, Exit.then])
    refine bodyPost_ret (results_none rfl _ _ _) rfl ?_
    exact ⟨rfl, rfl⟩
set_option maxRecDepth 100000 in
set_option maxHeartbeats 1000000 in
theorem stable0 (w : World) (A : Option Addr) (c : Nat) (F : Value) : Calls Tryd.prog 47 #[.slice A 0 c, .int .i64 0, F] w (Nowt w) := by
  go_enter Tryd.func47, Tryd.ntmps47
  go_wp2
  go_loop [7, 8] (fun i j => i = .int .i64 0 ∧ j = .int .i64 20) (fun i j => 0)
  case atStart => exact ⟨rfl, rfl⟩
  case round =>
    obtain ⟨rfl, rfl⟩ := hrel
    go_wp2_with fail
    refine (insc0 w A c F).mono ?_
    rintro e w1 ⟨rfl, rfl⟩
    go_wp2
    go_loop [6] (fun i => i = .int .i64 20) (fun i => 0)
    case atStart => rfl
    case round =>
      obtain rfl := hrel
      go_wp2
      (try simp only [Exit.inBlock, Exit.then])
      refine bodyPost_ret (results_none rfl _ _ _) rfl ?_
      exact ⟨rfl, rfl⟩

def SySPost (w : World) (l : List Sy) (e : Ending) (w' : World) : Prop := Ext w w' ∧ ∃ A c, e = .returned (.slice A l.length c) ∧ Sl symR w' All (.slice A l.length c) l
set_option maxRecDepth 100000 in
set_option maxHeartbeats 1000000 in
theorem sortst_any (wo w : World) (g n c : Nat) (l : List Sy) (hx : Ext wo w) (ho : OwnS symR w wo.heap.size 27 All (.slice (some ⟨g, 0, none⟩) n c) l) (hn : n ≤ 40) :
    Calls Tryd.prog 39 #[.slice (some ⟨g, 0, none⟩) n c, .func (.func 37) #[] #[]] w (RowS wo g n c (stab ltS l)) := by
  have HS := hid (stable_any wo w g n c l hx ho hn)
  clear hx ho
  go_enter Tryd.func39, Tryd.ntmps39
  go_wp2_with fail
  refine (HS.out).mono ?_
  rintro e w1 ⟨rfl, hx1, ho1⟩
  have HX1 := hid hx1
  have HO1 := hid ho1
  clear hx1 ho1
  go_wp2
  (try simp only [Exit.inBlock, Exit.then])
  refine bodyPost_ret (results_none rfl _ _ _) rfl ?_
  exact ⟨rfl, HX1.out, HO1.out⟩
set_option maxRecDepth 100000 in
set_option maxHeartbeats 1000000 in
theorem sortst0 (w : World) (A : Option Addr) (c : Nat) (F : Value) : Calls Tryd.prog 39 #[.slice A 0 c, F] w (Nowt w) := by
  go_enter Tryd.func39, Tryd.ntmps39
  go_wp2_with fail
  refine (stable0 w A c F).mono ?_
  rintro e w1 ⟨rfl, rfl⟩
  go_wp2
  (try simp only [Exit.inBlock, Exit.then])
  refine bodyPost_ret (results_none rfl _ _ _) rfl ?_
  exact ⟨rfl, rfl⟩
set_option maxRecDepth 100000 in
set_option maxHeartbeats 1000000 in
theorem ssorted_any (w : World) (A : Option Addr) (n c : Nat) (l : List Sy) (hl : Sl symR w All (.slice A n c) l) (hn : n ≤ 40) :
    Calls Tryd.prog 27 #[.slice A n c] w (SySPost w (stab ltS l)) := by
  have hln := hl.len
  have HLN := hid hln
  have HC := hid (clonesy_any w All A n c l hl (by omega))
  have hsl := stab_len ltS l
  obtain ⟨M, hM⟩ : ∃ M, stab ltS l = M := ⟨_, rfl⟩
  rw [hM] at hsl ⊢
  have HM := hid hM
  have HSL : Hid (M.length = n) := hid (by omega)
  clear hl hln hsl hM
  go_enter Tryd.func27, Tryd.ntmps27
  go_wp2_with fail
  refine (HC.out).mono ?_
  rintro e w1 ⟨A1, c1, rfl, ho1, hx1⟩
  have HX1 := hid hx1
  have HO1 := hid ho1
  clear hx1
  by_cases h0 : n = 0
  · subst h0
    clear ho1
    go_wp2_with fail
    refine (sortst0 w1 A1 c1 _).mono ?_
    rintro e w2 ⟨rfl, rfl⟩
    go_wp2
    go_ret
    have hm : M = [] := List.length_eq_zero_iff.1 HSL.out
    subst hm
    exact ⟨HX1.out, A1, c1, rfl, by have h := HO1.out.sl; have e : l = [] := List.length_eq_zero_iff.1 HLN.out.symm; rw [e] at h; exact h⟩
  · obtain ⟨g, rfl, -⟩ := HO1.out.at0 (by omega)
    have HS := hid (sortst_any w w1 g n c1 l HX1.out HO1.out hn)
    rw [HM.out] at HS
    clear ho1
    go_wp2_with fail
    refine (HS.out).mono ?_
    rintro e w2 ⟨rfl, hx2, ho2⟩
    have HX2 := hid hx2
    have HO2 := hid ho2
    clear hx2 ho2
    go_wp2
    go_ret
    refine ⟨HX2.out, some ⟨g, 0, none⟩, c1, by rw [HSL.out]; rfl, ?_⟩
    rw [HSL.out]
    exact HO2.out.sl
end Go.Proofs.YtekilcnkinmakaaDoor
