/- decompilerref06: before, Same of equal lists, Sorted. -/
import Derived.Test.YtekilcnkinmakaaDoorStbQ
import Derived.Test.YtekilcnkinmakaaDoorSymC
import Derived.Test.YtekilcnkinmakaaDoorStbM
import Derived.Test.YtekilcnkinmakaaDoorReg
import Derived.Test.YtekilcnkinmakaaDoorSlc
import Derived.Test.YtekilcnkinmakaaDoorApp
import Derived.Test.YtekilcnkinmakaaDoorLawB
namespace Go.Proofs.YtekilcnkinmakaaDoor
open Go.RowKit Go.Deco
set_option linter.unusedSimpArgs false
set_option linter.unusedVariables false

set_option maxRecDepth 100000 in
set_option maxHeartbeats 1000000 in
theorem before_any (w : World) (s t : Sy) : Calls Tryd.prog 40 #[.agg #[.string s.name, .int .u32 s.addr, .int .i64 s.kind], .agg #[.string t.name, .int .u32 t.addr, .int .i64 t.kind]] w (OneBool w (ltS s t)) := by
  obtain ⟨r, hr⟩ : ∃ r, ltS s t = r := ⟨_, rfl⟩
  rw [hr]
  have HR := hid hr
  clear hr
  obtain ⟨W0, hW0⟩ : ∃ W0, (w.alloc (.cells #[.string s.name, .int .u32 s.addr, .int .i64 s.kind] 27)).alloc (.cells #[.string t.name, .int .u32 t.addr, .int .i64 t.kind] 27) = W0 := ⟨_, rfl⟩
  have hE0 : Ext w W0 := by rw [← hW0]; exact ((Ext.refl w).alloc _).alloc _
  have c0 : W0.cell? ⟨w.heap.size, 0, none⟩ = some (.string s.name) := by rw [← hW0]; simp [go_sem]
  have c1 : W0.cell? ⟨w.heap.size, 1, none⟩ = some (.int .u32 s.addr) := by rw [← hW0]; simp [go_sem]
  have d0 : W0.cell? ⟨w.heap.size + 1, 0, none⟩ = some (.string t.name) := by rw [← hW0]; simp [go_sem]
  have d1 : W0.cell? ⟨w.heap.size + 1, 1, none⟩ = some (.int .u32 t.addr) := by rw [← hW0]; simp [go_sem]
  have HE := hid hE0
  clear hE0
  rcases Nat.lt_trichotomy s.addr t.addr with h | h | h
  · have e : r = true := by rw [← HR.out]; exact ltS_iff.2 (.inl h)
    subst e
    go_enter Tryd.func40, Tryd.ntmps40
    go_wp2
    go_ret
    exact ⟨rfl, HE.out⟩
  · have e : r = Op.bytesLess s.name.toList t.name.toList := by
      rw [lt_str, ← HR.out, Bool.eq_iff_iff, ltS_iff]
      constructor
      · rintro (h2 | ⟨_, h2⟩)
        · omega
        · exact h2
      · exact fun h2 => .inr ⟨h, h2⟩
    have HRE := hid e
    have n1 : ((s.addr : Int) == (t.addr : Int)) = true := by simp; omega
    have n2 : ¬ (s.addr : Int) < (t.addr : Int) := by omega
    have n3 : ¬ s.addr < t.addr := by omega
    clear h e
    go_enter Tryd.func40, Tryd.ntmps40
    go_wp2
    go_ret
    exact ⟨by rw [HRE.out]; rfl, HE.out⟩
  · have e : r = false := by
      rw [← HR.out, ← Bool.not_eq_true, ltS_iff]
      rintro (h2 | ⟨h2, _⟩) <;> omega
    subst e
    have n1 : ((s.addr : Int) == (t.addr : Int)) = false := by simp; omega
    have n2 : ¬ (s.addr : Int) < (t.addr : Int) := by omega
    have n3 : ¬ s.addr < t.addr := by omega
    go_enter Tryd.func40, Tryd.ntmps40
    go_wp2
    go_ret
    exact ⟨rfl, HE.out⟩

def BoolB (w : World) (b : Bool) (e : Ending) (w' : World) : Prop := e = .returned (.bool b) ∧ Ext w w'
set_option maxRecDepth 100000 in
set_option maxHeartbeats 1000000 in
theorem sames_eq (w : World) (A B : Option Addr) (n c d : Nat) (l : List Sy) (ha : Sl symR w All (.slice A n c) l) (hb : Sl symR w All (.slice B n d) l) :
    Calls Tryd.prog 28 #[.slice A n c, .slice B n d] w (OneBool w true) := by
  have HLN := hid ha.len
  have hac := ha.cap
  have hbc := hb.cap
  have HA := hid ha
  have HB := hid hb
  clear ha hb
  go_enter Tryd.func28, Tryd.ntmps28
  go_wp2
  go_loopw [5] (fun i wr => ∃ k : Nat, k ≤ n ∧ i = .int .i64 k ∧ Hid (Ext w wr)) (fun i _ => n - (intOf i).toNat)
  case atStart => exact ⟨0, by omega, rfl, hid (Ext.refl _)⟩
  case round =>
    obtain ⟨k, hk, rfl, HX⟩ := hrel
    by_cases h1 : k < n
    · obtain ⟨x, hx⟩ : ∃ x, l[k]? = some x := ⟨_, List.getElem?_eq_getElem (by have := HLN.out; omega)⟩
      obtain ⟨b, off, rfl, c0, c1, c2, -, -, -, -⟩ := (HA.out.ext HX.out).sym_at hx
      obtain ⟨b', off', rfl, e0, e1, e2, -, -, -, -⟩ := (HB.out.ext HX.out).sym_at hx
      have i1 : (0 : Int) ≤ (k : Int) := by omega
      have i2 : (k : Int) < (n : Int) := by omega
      clear hx
      go_wp2_with fail
      refine wp_region_held_drew (S := (fun w' => w'.cell? ⟨b, off + k * 3, none⟩ = some (.string x.name) ∧ w'.cell? ⟨b, off + k * 3 + 1, none⟩ = some (.int .u32 x.addr) ∧ w'.cell? ⟨b, off + k * 3 + 2, none⟩ = some (.int .i64 x.kind) ∧ w'.cell? ⟨b', off' + k * 3, none⟩ = some (.string x.name) ∧ w'.cell? ⟨b', off' + k * 3 + 1, none⟩ = some (.int .u32 x.addr) ∧ w'.cell? ⟨b', off' + k * 3 + 2, none⟩ = some (.int .i64 x.kind))) (by kernel_rfl) ⟨c0, c1, c2, e0, e1, e2⟩ (fun hSg11q0 => ?_)
      refine wpAnyH_takeL (i := 0) (v := ?g11qv0) rfl (by kernel_rfl) (by kernel_rfl) (by kernel_rfl) (fun _ _ _ h => h) (Or.inl ⟨by rfl, ?g11qy0⟩) (by assumption) ?g11qr0
      case g11qy0 => first | (intro w hSw; (try dsimp only at hSw); go_simp; done) | (intro w hSw; (try dsimp only at hSw); go_simp; with_reducible rfl)
      case' g11qr0 => try simp only [Act.put, List.setIfInBounds_toArray, List.set_cons_zero, List.set_cons_succ]
      refine wpAnyH_takeL (i := 1) (v := ?g11qv1) rfl (by kernel_rfl) (by kernel_rfl) (by kernel_rfl) (fun _ _ _ h => h) (Or.inl ⟨by rfl, ?g11qy1⟩) (by assumption) ?g11qr1
      case g11qy1 => first | (intro w hSw; (try dsimp only at hSw); go_simp; done) | (intro w hSw; (try dsimp only at hSw); go_simp; with_reducible rfl)
      case' g11qr1 => try simp only [Act.put, List.setIfInBounds_toArray, List.set_cons_zero, List.set_cons_succ]
      refine wpAnyH_takeL (i := 2) (v := ?g11qv2) rfl (by kernel_rfl) (by kernel_rfl) (by kernel_rfl) (fun _ _ _ h => h) (Or.inl ⟨by rfl, ?g11qy2⟩) (by assumption) ?g11qr2
      case g11qy2 => first | (intro w hSw; (try dsimp only at hSw); go_simp; done) | (intro w hSw; (try dsimp only at hSw); go_simp; with_reducible rfl)
      case' g11qr2 => try simp only [Act.put, List.setIfInBounds_toArray, List.set_cons_zero, List.set_cons_succ]
      refine wpAnyH_takeL (i := 3) (v := ?g11qv3) rfl (by kernel_rfl) (by kernel_rfl) (by kernel_rfl) (fun _ _ _ h => h) (Or.inl ⟨by rfl, ?g11qy3⟩) (by assumption) ?g11qr3
      case g11qy3 => first | (intro w hSw; (try dsimp only at hSw); go_simp; done) | (intro w hSw; (try dsimp only at hSw); go_simp; with_reducible rfl)
      case' g11qr3 => try simp only [Act.put, List.setIfInBounds_toArray, List.set_cons_zero, List.set_cons_succ]
      refine wpAnyH_takeL (i := 4) (v := ?g11qv4) rfl (by kernel_rfl) (by kernel_rfl) (by kernel_rfl) (fun _ _ _ h => h) (Or.inl ⟨by rfl, ?g11qy4⟩) (by assumption) ?g11qr4
      case g11qy4 => first | (intro w hSw; (try dsimp only at hSw); go_simp; done) | (intro w hSw; (try dsimp only at hSw); go_simp; with_reducible rfl)
      case' g11qr4 => try simp only [Act.put, List.setIfInBounds_toArray, List.set_cons_zero, List.set_cons_succ]
      refine wpAnyH_takeL (i := 5) (v := ?g11qv5) rfl (by kernel_rfl) (by kernel_rfl) (by kernel_rfl) (fun _ _ _ h => h) (Or.inl ⟨by rfl, ?g11qy5⟩) (by assumption) ?g11qr5
      case g11qy5 => first | (intro w hSw; (try dsimp only at hSw); go_simp; done) | (intro w hSw; (try dsimp only at hSw); go_simp; with_reducible rfl)
      case' g11qr5 => try simp only [Act.put, List.setIfInBounds_toArray, List.set_cons_zero, List.set_cons_succ]
      refine wpAnyH_takeL (i := 6) (v := ?g11qv6) rfl (by kernel_rfl) (by kernel_rfl) (by kernel_rfl) (fun _ _ _ h => h) (Or.inl ⟨by rfl, ?g11qy6⟩) (by assumption) ?g11qr6
      case g11qy6 => first | (intro w hSw; (try dsimp only at hSw); go_simp; done) | (intro w hSw; (try dsimp only at hSw); go_simp; with_reducible rfl)
      case' g11qr6 => try simp only [Act.put, List.setIfInBounds_toArray, List.set_cons_zero, List.set_cons_succ]
      refine wpAnyH_takeL (i := 7) (v := ?g11qv7) rfl (by kernel_rfl) (by kernel_rfl) (by kernel_rfl) (fun _ _ _ h => h) (Or.inl ⟨by rfl, ?g11qy7⟩) (by assumption) ?g11qr7
      case g11qy7 => first | (intro w hSw; (try dsimp only at hSw); go_simp; done) | (intro w hSw; (try dsimp only at hSw); go_simp; with_reducible rfl)
      case' g11qr7 => try simp only [Act.put, List.setIfInBounds_toArray, List.set_cons_zero, List.set_cons_succ]
      refine wpAnyH_takeL (i := 8) (v := ?g11qv8) rfl (by kernel_rfl) (by kernel_rfl) (by kernel_rfl) (fun _ _ _ h => h) (Or.inl ⟨by rfl, ?g11qy8⟩) (by assumption) ?g11qr8
      case g11qy8 => first | (intro w hSw; (try dsimp only at hSw); go_simp; done) | (intro w hSw; (try dsimp only at hSw); go_simp; with_reducible rfl)
      case' g11qr8 => try simp only [Act.put, List.setIfInBounds_toArray, List.set_cons_zero, List.set_cons_succ]
      refine wpAnyH_done (by kernel_rfl) ?_ _
      go_wp2
      first
        | go_roundw
        | refine ⟨?rel, ?measure⟩
      case rel => exact ⟨k + 1, by omega, by go_num, hid HX.out.drew⟩
      case measure => simp [intOf]; omega
    · obtain rfl : k = n := by omega
      go_wp2
      go_ret
      exact ⟨rfl, HX.out⟩

theorem info_symG : (Tryd.prog.info? 27).map (fun i => (i.zero, i.size, i.bytes)) = some (some (.agg #[.string ⟨#[]⟩, .int .u32 0, .int .i64 0]), 3, 32) := by kernel_rfl
def SyIn (wo w : World) (l : List Sy) (e : Ending) (w' : World) : Prop := ∃ A c, e = .returned (.slice A l.length c) ∧ Sl symR w' All (.slice A l.length c) l ∧ Ext wo w'
theorem sym_ok {w : World} {S : Nat → Prop} {A : Option Addr} {n c k : Nat} {l : List Sy} {x : Sy} (h : Sl symR w S (.slice A n c) l) (hk : l[k]? = some x) : symP.ok x := by
  obtain ⟨b, off, rfl, c0, c1, c2, k0, k1, k2, k3⟩ := h.sym_at hk
  exact ⟨k0, k1, k2, k3⟩
set_option maxRecDepth 100000 in
set_option maxHeartbeats 2000000 in
theorem rsorted_any (w : World) (A : Option Addr) (n c : Nat) (l : List Sy) (hl : Sl symR w All (.slice A n c) l) (hn : n ≤ 1000000) :
    Calls Tryd.prog 29 #[.slice A n c] w (SyIn w w (stab ltS l)) := by
  have hln := hl.len
  obtain ⟨hnc, hcm⟩ := hl.cap
  obtain ⟨i0, hi, hz0, hz1, hz2⟩ := info_parts info_symG
  have HI := hid hi; clear hi
  have HZ0 := hid hz0; clear hz0
  have HZ1 := hid hz1; clear hz1
  have HZ2 := hid hz2; clear hz2
  have HS := hid hl; clear hl
  have HLN := hid hln; clear hln
  go_enter Tryd.func29, Tryd.ntmps29
  go_wp2
  go_loopw [3, 4] (fun o i wr => ∃ (j : Nat) (Ao : Option Addr) (co : Nat), j ≤ n ∧ i = .int .i64 j ∧ o = .slice Ao j co ∧ Hid (Sl symR wr All (.slice Ao j co) (stab ltS (l.take j))) ∧ Hid (Ext w wr)) (fun _ i _ => n - (intOf i).toNat)
  case atStart => exact ⟨0, none, 0, by omega, rfl, rfl, hid Sl.nil, hid (Ext.refl w)⟩
  case round =>
    obtain ⟨j, Ao, co, hj, rfl, rfl, HO, HX⟩ := hrel
    by_cases h1 : j < n
    · obtain ⟨x, hx⟩ : ∃ x, l[j]? = some x := ⟨_, List.getElem?_eq_getElem (by have := HLN.out; omega)⟩
      have HK := hid hx
      have hok := hid (sym_ok HS.out hx)
      have hst := stab_snoc ltS (l.take j) x
      rw [← show l.take (j + 1) = l.take j ++ [x] from by rw [List.take_add_one, hx]; rfl] at hst
      obtain ⟨O, hO⟩ : ∃ O, stab ltS (l.take j) = O := ⟨_, rfl⟩
      rw [hO] at HO hst
      have HST := hid hst
      have HOL := hid (show O.length = j from HO.out.len.symm)
      have HOS := hid (hO ▸ (stab_ok weakS (l.take j)).1)
      have hco := HO.out.cap
      clear hx hst hO
      have V0 : ∃ V, V = wr := ⟨_, rfl⟩
      obtain ⟨V, rfl⟩ := V0
      go_wp2
      go_loopw [5] (fun i wr => ∃ (k : Nat), k ≤ j ∧ i = .int .i64 k ∧ Hid (∀ m, k ≤ m → ∀ y, O[m]? = some y → ltS x y = true) ∧ Hid (Ext V wr)) (fun i _ => (intOf i).toNat)
      case atStart => exact ⟨j, by omega, rfl, hid (fun m hm y hy => by have := HOL.out; have := (List.getElem?_eq_some_iff.1 hy).1; omega), hid (Ext.refl V)⟩
      case round =>
        obtain ⟨k, hk, rfl, HB, HXR⟩ := hrel
        obtain ⟨b, off, rfl, c0, c1, c2, -, -, -, -⟩ := (HS.out.ext (HX.out.trans HXR.out)).sym_at HK.out
        have i1 : (0 : Int) ≤ (j : Int) := by omega
        have i2 : (j : Int) < (n : Int) := by omega
        by_cases h2 : 0 < k
        · obtain ⟨m, rfl⟩ : ∃ m, k = m + 1 := ⟨k - 1, by omega⟩
          obtain ⟨y, hy⟩ : ∃ y, O[m]? = some y := ⟨_, List.getElem?_eq_getElem (by have := HOL.out; omega)⟩
          obtain ⟨b', off', rfl, e0, e1, e2, -, -, -, -⟩ := (HO.out.ext HXR.out).sym_at hy
          have HY := hid hy
          obtain ⟨r, hr⟩ : ∃ r, ltS x y = r := ⟨_, rfl⟩
          have HR := hid hr
          clear hy hr
          have im : IntKind.i64.wrap (((m + 1 : Nat) : Int) - 1) = (m : Int) := by rw [show (((m + 1 : Nat) : Int) - 1) = (m : Int) from by omega]; exact IntWalk.i64_in _ (by omega)
          have im2 : IntKind.i64.wrap (m : Int) = (m : Int) := IntWalk.i64_in _ (by omega)
          have i3 : (0 : Int) ≤ (m : Int) := by omega
          have i4 : (m : Int) < (j : Int) := by omega
          have i5 : ((m + 1 : Nat) : Int) > 0 := by omega
          have i6 : (0 : Int) < ((m + 1 : Nat) : Int) := by omega
          cases r with
          | true =>
            have HB2 : Hid (∀ q, m ≤ q → ∀ z, O[q]? = some z → ltS x z = true) := hid (by
              intro q hq z hz
              rcases Nat.lt_or_ge m q with h | h
              · exact HB.out q h z hz
              · obtain rfl : q = m := by omega
                have := HY.out.symm.trans hz
                injection this with this
                rw [← this]
                exact HR.out)
            go_wp2_with fail
            refine wp_region_held_drew (S := (fun w' => w'.cell? ⟨b, off + j * 3, none⟩ = some (.string x.name) ∧ w'.cell? ⟨b, off + j * 3 + 1, none⟩ = some (.int .u32 x.addr) ∧ w'.cell? ⟨b, off + j * 3 + 2, none⟩ = some (.int .i64 x.kind) ∧ w'.cell? ⟨b', off' + m * 3, none⟩ = some (.string y.name) ∧ w'.cell? ⟨b', off' + m * 3 + 1, none⟩ = some (.int .u32 y.addr) ∧ w'.cell? ⟨b', off' + m * 3 + 2, none⟩ = some (.int .i64 y.kind))) (by kernel_rfl) ⟨c0, c1, c2, e0, e1, e2⟩ (fun hSg12q0 => ?_)
            refine wpAnyH_takeL (i := 0) (v := ?g12qv0) rfl (by kernel_rfl) (by kernel_rfl) (by kernel_rfl) (fun _ _ _ h => h) (Or.inl ⟨by rfl, ?g12qy0⟩) (by assumption) ?g12qr0
            case g12qy0 => first | (intro w hSw; (try dsimp only at hSw); go_simp; done) | (intro w hSw; (try dsimp only at hSw); go_simp; with_reducible rfl)
            case' g12qr0 => try simp only [Act.put, List.setIfInBounds_toArray, List.set_cons_zero, List.set_cons_succ]
            refine wpAnyH_takeL (i := 1) (v := ?g12qv1) rfl (by kernel_rfl) (by kernel_rfl) (by kernel_rfl) (fun _ _ _ h => h) (Or.inl ⟨by rfl, ?g12qy1⟩) (by assumption) ?g12qr1
            case g12qy1 => first | (intro w hSw; (try dsimp only at hSw); go_simp; done) | (intro w hSw; (try dsimp only at hSw); go_simp; with_reducible rfl)
            case' g12qr1 => try simp only [Act.put, List.setIfInBounds_toArray, List.set_cons_zero, List.set_cons_succ]
            refine wpAnyH_takeL (i := 2) (v := ?g12qv2) rfl (by kernel_rfl) (by kernel_rfl) (by kernel_rfl) (fun _ _ _ h => h) (Or.inl ⟨by rfl, ?g12qy2⟩) (by assumption) ?g12qr2
            case g12qy2 => first | (intro w hSw; (try dsimp only at hSw); go_simp; done) | (intro w hSw; (try dsimp only at hSw); go_simp; with_reducible rfl)
            case' g12qr2 => try simp only [Act.put, List.setIfInBounds_toArray, List.set_cons_zero, List.set_cons_succ]
            refine wpAnyH_takeL (i := 3) (v := ?g12qv3) rfl (by kernel_rfl) (by kernel_rfl) (by kernel_rfl) (fun _ _ _ h => h) (Or.inl ⟨by rfl, ?g12qy3⟩) (by assumption) ?g12qr3
            case g12qy3 => first | (intro w hSw; (try dsimp only at hSw); go_simp; done) | (intro w hSw; (try dsimp only at hSw); go_simp; with_reducible rfl)
            case' g12qr3 => try simp only [Act.put, List.setIfInBounds_toArray, List.set_cons_zero, List.set_cons_succ]
            refine wpAnyH_takeL (i := 4) (v := ?g12qv4) rfl (by kernel_rfl) (by kernel_rfl) (by kernel_rfl) (fun _ _ _ h => h) (Or.inl ⟨by rfl, ?g12qy4⟩) (by assumption) ?g12qr4
            case g12qy4 => first | (intro w hSw; (try dsimp only at hSw); go_simp; done) | (intro w hSw; (try dsimp only at hSw); go_simp; with_reducible rfl)
            case' g12qr4 => try simp only [Act.put, List.setIfInBounds_toArray, List.set_cons_zero, List.set_cons_succ]
            refine wpAnyH_takeL (i := 5) (v := ?g12qv5) rfl (by kernel_rfl) (by kernel_rfl) (by kernel_rfl) (fun _ _ _ h => h) (Or.inl ⟨by rfl, ?g12qy5⟩) (by assumption) ?g12qr5
            case g12qy5 => first | (intro w hSw; (try dsimp only at hSw); go_simp; done) | (intro w hSw; (try dsimp only at hSw); go_simp; with_reducible rfl)
            case' g12qr5 => try simp only [Act.put, List.setIfInBounds_toArray, List.set_cons_zero, List.set_cons_succ]
            refine wpAnyH_takeL (i := 6) (v := ?g12qv6) rfl (by kernel_rfl) (by kernel_rfl) (by kernel_rfl) (fun _ _ _ h => h) (Or.inl ⟨by rfl, ?g12qy6⟩) (by assumption) ?g12qr6
            case g12qy6 => first | (intro w hSw; (try dsimp only at hSw); go_simp; done) | (intro w hSw; (try dsimp only at hSw); go_simp; with_reducible rfl)
            case' g12qr6 => try simp only [Act.put, List.setIfInBounds_toArray, List.set_cons_zero, List.set_cons_succ]
            refine wpAnyH_takeL (i := 7) (v := ?g12qv7) rfl (by kernel_rfl) (by kernel_rfl) (by kernel_rfl) (fun _ _ _ h => h) (Or.inl ⟨by rfl, ?g12qy7⟩) (by assumption) ?g12qr7
            case g12qy7 => first | (intro w hSw; (try dsimp only at hSw); go_simp; done) | (intro w hSw; (try dsimp only at hSw); go_simp; with_reducible rfl)
            case' g12qr7 => try simp only [Act.put, List.setIfInBounds_toArray, List.set_cons_zero, List.set_cons_succ]
            refine wpAnyH_takeL (i := 8) (v := ?g12qv8) rfl (by kernel_rfl) (by kernel_rfl) (by kernel_rfl) (fun _ _ _ h => h) (Or.inl ⟨by rfl, ?g12qy8⟩) (by assumption) ?g12qr8
            case g12qy8 => first | (intro w hSw; (try dsimp only at hSw); go_simp; done) | (intro w hSw; (try dsimp only at hSw); go_simp; with_reducible rfl)
            case' g12qr8 => try simp only [Act.put, List.setIfInBounds_toArray, List.set_cons_zero, List.set_cons_succ]
            refine wpAnyH_takeL (i := 9) (v := ?g12qv9) rfl (by kernel_rfl) (by kernel_rfl) (by kernel_rfl) (fun _ _ _ h => h) (Or.inl ⟨by rfl, ?g12qy9⟩) (by assumption) ?g12qr9
            case g12qy9 => first | (intro w hSw; (try dsimp only at hSw); go_simp; done) | (intro w hSw; (try dsimp only at hSw); go_simp; with_reducible rfl)
            case' g12qr9 => try simp only [Act.put, List.setIfInBounds_toArray, List.set_cons_zero, List.set_cons_succ]
            refine wpAnyH_takeL (i := 10) (v := ?g12qv10) rfl (by kernel_rfl) (by kernel_rfl) (by kernel_rfl) (fun _ _ _ h => h) (Or.inl ⟨by rfl, ?g12qy10⟩) (by assumption) ?g12qr10
            case g12qy10 => first | (intro w hSw; (try dsimp only at hSw); go_simp; done) | (intro w hSw; (try dsimp only at hSw); go_simp; with_reducible rfl)
            case' g12qr10 => try simp only [Act.put, List.setIfInBounds_toArray, List.set_cons_zero, List.set_cons_succ]
            refine wpAnyH_takeL (i := 11) (v := ?g12qv11) rfl (by kernel_rfl) (by kernel_rfl) (by kernel_rfl) (fun _ _ _ h => h) (Or.inl ⟨by rfl, ?g12qy11⟩) (by assumption) ?g12qr11
            case g12qy11 => first | (intro w hSw; (try dsimp only at hSw); go_simp; done) | (intro w hSw; (try dsimp only at hSw); go_simp; with_reducible rfl)
            case' g12qr11 => try simp only [Act.put, List.setIfInBounds_toArray, List.set_cons_zero, List.set_cons_succ]
            refine wpAnyH_ready (rs := [12]) (by kernel_rfl) (by simp) ?_
            refine AllReadyH.consL rfl (fun K hK => ?_) AllReadyH.nil
            go_simp
            go_at_call 40
            refine (before_any _ x y).mono ?_
            rintro e w7 ⟨rfl, hx7⟩
            rw [HR.out]
            have HX7 := hid hx7.drew_left
            clear hx7
            refine hK.out _ _ ⟨HX7.out.cell c0, HX7.out.cell c1, HX7.out.cell c2, HX7.out.cell e0, HX7.out.cell e1, HX7.out.cell e2⟩ (fun hSg12q1 => ?_)
            clear hK K
            try simp only [Act.put, List.setIfInBounds_toArray, List.set_cons_zero, List.set_cons_succ]
            refine wpAnyH_takeL (i := 13) (v := ?g12qv13) rfl (by kernel_rfl) (by kernel_rfl) (by kernel_rfl) (fun _ _ _ h => h) (Or.inl ⟨by rfl, ?g12qy13⟩) (by assumption) ?g12qr13
            case g12qy13 => first | (intro w hSw; (try dsimp only at hSw); go_simp; done) | (intro w hSw; (try dsimp only at hSw); go_simp; with_reducible rfl)
            case' g12qr13 => try simp only [Act.put, List.setIfInBounds_toArray, List.set_cons_zero, List.set_cons_succ]
            refine wpAnyH_done (by kernel_rfl) ?_ _
            have HXW := hid (HXR.out.trans HX7.out)
            clear c0 c1 c2 e0 e1 e2 HX7 HXR HR HB
            go_wp2
            first
              | go_roundw
              | refine ⟨?rel, ?measure⟩
            case rel => exact ⟨m, by omega, by go_num, HB2, HXW⟩
            case measure => simp [intOf]
          | false =>
            have hnew : Hid (insR ltS x O = (O.take (m + 1) ++ [x]) ++ O.drop (m + 1)) := hid (by
              rw [List.append_assoc]
              exact insR_insP weakS HOS.out (by have := HOL.out; omega) (fun z _ hz => by have := HY.out.symm.trans hz; injection this with this; rw [← this]; exact HR.out) HB.out)
            go_wp2_with fail
            refine wp_region_held_drew (S := (fun w' => w'.cell? ⟨b, off + j * 3, none⟩ = some (.string x.name) ∧ w'.cell? ⟨b, off + j * 3 + 1, none⟩ = some (.int .u32 x.addr) ∧ w'.cell? ⟨b, off + j * 3 + 2, none⟩ = some (.int .i64 x.kind) ∧ w'.cell? ⟨b', off' + m * 3, none⟩ = some (.string y.name) ∧ w'.cell? ⟨b', off' + m * 3 + 1, none⟩ = some (.int .u32 y.addr) ∧ w'.cell? ⟨b', off' + m * 3 + 2, none⟩ = some (.int .i64 y.kind))) (by kernel_rfl) ⟨c0, c1, c2, e0, e1, e2⟩ (fun hSg13q0 => ?_)
            refine wpAnyH_takeL (i := 0) (v := ?g13qv0) rfl (by kernel_rfl) (by kernel_rfl) (by kernel_rfl) (fun _ _ _ h => h) (Or.inl ⟨by rfl, ?g13qy0⟩) (by assumption) ?g13qr0
            case g13qy0 => first | (intro w hSw; (try dsimp only at hSw); go_simp; done) | (intro w hSw; (try dsimp only at hSw); go_simp; with_reducible rfl)
            case' g13qr0 => try simp only [Act.put, List.setIfInBounds_toArray, List.set_cons_zero, List.set_cons_succ]
            refine wpAnyH_takeL (i := 1) (v := ?g13qv1) rfl (by kernel_rfl) (by kernel_rfl) (by kernel_rfl) (fun _ _ _ h => h) (Or.inl ⟨by rfl, ?g13qy1⟩) (by assumption) ?g13qr1
            case g13qy1 => first | (intro w hSw; (try dsimp only at hSw); go_simp; done) | (intro w hSw; (try dsimp only at hSw); go_simp; with_reducible rfl)
            case' g13qr1 => try simp only [Act.put, List.setIfInBounds_toArray, List.set_cons_zero, List.set_cons_succ]
            refine wpAnyH_takeL (i := 2) (v := ?g13qv2) rfl (by kernel_rfl) (by kernel_rfl) (by kernel_rfl) (fun _ _ _ h => h) (Or.inl ⟨by rfl, ?g13qy2⟩) (by assumption) ?g13qr2
            case g13qy2 => first | (intro w hSw; (try dsimp only at hSw); go_simp; done) | (intro w hSw; (try dsimp only at hSw); go_simp; with_reducible rfl)
            case' g13qr2 => try simp only [Act.put, List.setIfInBounds_toArray, List.set_cons_zero, List.set_cons_succ]
            refine wpAnyH_takeL (i := 3) (v := ?g13qv3) rfl (by kernel_rfl) (by kernel_rfl) (by kernel_rfl) (fun _ _ _ h => h) (Or.inl ⟨by rfl, ?g13qy3⟩) (by assumption) ?g13qr3
            case g13qy3 => first | (intro w hSw; (try dsimp only at hSw); go_simp; done) | (intro w hSw; (try dsimp only at hSw); go_simp; with_reducible rfl)
            case' g13qr3 => try simp only [Act.put, List.setIfInBounds_toArray, List.set_cons_zero, List.set_cons_succ]
            refine wpAnyH_takeL (i := 4) (v := ?g13qv4) rfl (by kernel_rfl) (by kernel_rfl) (by kernel_rfl) (fun _ _ _ h => h) (Or.inl ⟨by rfl, ?g13qy4⟩) (by assumption) ?g13qr4
            case g13qy4 => first | (intro w hSw; (try dsimp only at hSw); go_simp; done) | (intro w hSw; (try dsimp only at hSw); go_simp; with_reducible rfl)
            case' g13qr4 => try simp only [Act.put, List.setIfInBounds_toArray, List.set_cons_zero, List.set_cons_succ]
            refine wpAnyH_takeL (i := 5) (v := ?g13qv5) rfl (by kernel_rfl) (by kernel_rfl) (by kernel_rfl) (fun _ _ _ h => h) (Or.inl ⟨by rfl, ?g13qy5⟩) (by assumption) ?g13qr5
            case g13qy5 => first | (intro w hSw; (try dsimp only at hSw); go_simp; done) | (intro w hSw; (try dsimp only at hSw); go_simp; with_reducible rfl)
            case' g13qr5 => try simp only [Act.put, List.setIfInBounds_toArray, List.set_cons_zero, List.set_cons_succ]
            refine wpAnyH_takeL (i := 6) (v := ?g13qv6) rfl (by kernel_rfl) (by kernel_rfl) (by kernel_rfl) (fun _ _ _ h => h) (Or.inl ⟨by rfl, ?g13qy6⟩) (by assumption) ?g13qr6
            case g13qy6 => first | (intro w hSw; (try dsimp only at hSw); go_simp; done) | (intro w hSw; (try dsimp only at hSw); go_simp; with_reducible rfl)
            case' g13qr6 => try simp only [Act.put, List.setIfInBounds_toArray, List.set_cons_zero, List.set_cons_succ]
            refine wpAnyH_takeL (i := 7) (v := ?g13qv7) rfl (by kernel_rfl) (by kernel_rfl) (by kernel_rfl) (fun _ _ _ h => h) (Or.inl ⟨by rfl, ?g13qy7⟩) (by assumption) ?g13qr7
            case g13qy7 => first | (intro w hSw; (try dsimp only at hSw); go_simp; done) | (intro w hSw; (try dsimp only at hSw); go_simp; with_reducible rfl)
            case' g13qr7 => try simp only [Act.put, List.setIfInBounds_toArray, List.set_cons_zero, List.set_cons_succ]
            refine wpAnyH_takeL (i := 8) (v := ?g13qv8) rfl (by kernel_rfl) (by kernel_rfl) (by kernel_rfl) (fun _ _ _ h => h) (Or.inl ⟨by rfl, ?g13qy8⟩) (by assumption) ?g13qr8
            case g13qy8 => first | (intro w hSw; (try dsimp only at hSw); go_simp; done) | (intro w hSw; (try dsimp only at hSw); go_simp; with_reducible rfl)
            case' g13qr8 => try simp only [Act.put, List.setIfInBounds_toArray, List.set_cons_zero, List.set_cons_succ]
            refine wpAnyH_takeL (i := 9) (v := ?g13qv9) rfl (by kernel_rfl) (by kernel_rfl) (by kernel_rfl) (fun _ _ _ h => h) (Or.inl ⟨by rfl, ?g13qy9⟩) (by assumption) ?g13qr9
            case g13qy9 => first | (intro w hSw; (try dsimp only at hSw); go_simp; done) | (intro w hSw; (try dsimp only at hSw); go_simp; with_reducible rfl)
            case' g13qr9 => try simp only [Act.put, List.setIfInBounds_toArray, List.set_cons_zero, List.set_cons_succ]
            refine wpAnyH_takeL (i := 10) (v := ?g13qv10) rfl (by kernel_rfl) (by kernel_rfl) (by kernel_rfl) (fun _ _ _ h => h) (Or.inl ⟨by rfl, ?g13qy10⟩) (by assumption) ?g13qr10
            case g13qy10 => first | (intro w hSw; (try dsimp only at hSw); go_simp; done) | (intro w hSw; (try dsimp only at hSw); go_simp; with_reducible rfl)
            case' g13qr10 => try simp only [Act.put, List.setIfInBounds_toArray, List.set_cons_zero, List.set_cons_succ]
            refine wpAnyH_takeL (i := 11) (v := ?g13qv11) rfl (by kernel_rfl) (by kernel_rfl) (by kernel_rfl) (fun _ _ _ h => h) (Or.inl ⟨by rfl, ?g13qy11⟩) (by assumption) ?g13qr11
            case g13qy11 => first | (intro w hSw; (try dsimp only at hSw); go_simp; done) | (intro w hSw; (try dsimp only at hSw); go_simp; with_reducible rfl)
            case' g13qr11 => try simp only [Act.put, List.setIfInBounds_toArray, List.set_cons_zero, List.set_cons_succ]
            refine wpAnyH_ready (rs := [12]) (by kernel_rfl) (by simp) ?_
            refine AllReadyH.consL rfl (fun K hK => ?_) AllReadyH.nil
            go_simp
            go_at_call 40
            refine (before_any _ x y).mono ?_
            rintro e w7 ⟨rfl, hx7⟩
            rw [HR.out]
            have HX7 := hid hx7.drew_left
            clear hx7
            refine hK.out _ _ ⟨HX7.out.cell c0, HX7.out.cell c1, HX7.out.cell c2, HX7.out.cell e0, HX7.out.cell e1, HX7.out.cell e2⟩ (fun hSg13q1 => ?_)
            clear hK K
            try simp only [Act.put, List.setIfInBounds_toArray, List.set_cons_zero, List.set_cons_succ]
            refine wpAnyH_takeL (i := 13) (v := ?g13qv13) rfl (by kernel_rfl) (by kernel_rfl) (by kernel_rfl) (fun _ _ _ h => h) (Or.inl ⟨by rfl, ?g13qy13⟩) (by assumption) ?g13qr13
            case g13qy13 => first | (intro w hSw; (try dsimp only at hSw); go_simp; done) | (intro w hSw; (try dsimp only at hSw); go_simp; with_reducible rfl)
            case' g13qr13 => try simp only [Act.put, List.setIfInBounds_toArray, List.set_cons_zero, List.set_cons_succ]
            refine wpAnyH_done (by kernel_rfl) ?_ _
            have HXW := hid (HXR.out.trans HX7.out)
            clear e0 e1 e2 HR HY
            obtain ⟨k, hkk⟩ : ∃ k, m + 1 = k := ⟨_, rfl⟩
            rw [hkk] at hnew hk
            have hki : ((m + 1 : Nat) : Int) = (k : Int) := by omega
            have hk2 : (m : Int) + 1 = (k : Int) := by omega
            simp only [hki, hk2]
            clear hkk hki hk2 im im2 i3 i4 i5 i6 h2
            have HC7 : Hid (w7.cell? ⟨b, off + j * 3, none⟩ = some (.string x.name) ∧ w7.cell? ⟨b, off + j * 3 + 1, none⟩ = some (.int .u32 x.addr) ∧ w7.cell? ⟨b, off + j * 3 + 2, none⟩ = some (.int .i64 x.kind)) := hid ⟨HX7.out.cell c0, HX7.out.cell c1, HX7.out.cell c2⟩
            have HO7 := hid (HO.out.ext HXW.out)
            have HXV := hid (HX.out.trans HXW.out)
            have HKL := hid (show (O.take k).length = k by rw [List.length_take]; have := HOL.out; omega)
            clear c0 c1 c2 HX7 HXR HB HXW HO
            go_wp2_with (first
              | (refine wpList_to rfl 22 27 (.tmp 32) (.tmp 33) rfl Tryd.underlying22 i0 HI.out symR HZ1.out rfl HO7.out k rfl hk ?_; intro A2 hA2; have HA2 := hid hA2; clear hA2)
              | (at_builtin; refine wpList_appS rfl (.tmp 31) (.tmp 34) 22 rfl w7.heap.size 27 i0 _ 3 32 Tryd.underlying22 HI.out HZ0.out HZ1.out HZ2.out rfl symR rfl _ [] rfl (OwnS.fresh0 (T := All) w7 (Nat.le_refl _)) A2 k co (O.take k) (fun b => b < w7.heap.size) rfl ((HA2.out.mono (fun b _ h => h.lt)).ext ((Ext.refl w7).alloc _)) (fun _ hb _ => ⟨trivial, own_ne hb⟩) (by simp; omega) (by simp; omega) (by simp) ?_; intro A3 c3 w3 hown3 hg3 hloc; have HO3 : Hid (OwnS symR w3 w7.heap.size 27 All (.slice A3 k c3) (O.take k)) := hid (by simpa using hown3); clear hown3; have HX3 := hid (((Ext.refl w7).alloc _).grown hg3 (fun k hk => by rw [own_at hk]; simp)); clear hg3 hloc; have c0 := HX3.out.cell HC7.out.1; have c1 := HX3.out.cell HC7.out.2.1; have c2 := HX3.out.cell HC7.out.2.2; simp only [List.length_nil, Nat.zero_add])
              | (at_builtin; refine wpList_app1 rfl (.tmp 36) (.tmp 41) 22 rfl w7.heap.size 27 i0 _ 3 32 Tryd.underlying22 HI.out HZ0.out HZ1.out HZ2.out rfl symR rfl (.slice A3 k c3) (O.take k) rfl HO3.out x rfl ⟨rfl, hok.out⟩ (by have := HKL.out; omega) (by have := HKL.out; omega) (by exact HX3.out.size) ?_; intro A4 c4 w4 hown4 hg4; rw [HKL.out] at hown4; have hx4 := (HX3.out.alloc _).grown hg4 (fun k hk => (HO3.out.block _ hk).1); have HO4 := hid hown4; have HX4 := hid hx4; clear hown4 hg4 hx4 c0 c1 c2; rw [HKL.out])
              | (refine wpList_from rfl 22 27 (.tmp 44) (.tmp 45) rfl Tryd.underlying22 i0 HI.out symR HZ1.out rfl HO7.out k rfl hk ?_; intro A5 hA5; have HA5 := hid hA5; clear hA5)
              | (at_builtin; refine wpList_appS rfl (.tmp 43) (.tmp 46) 22 rfl w7.heap.size 27 i0 _ 3 32 Tryd.underlying22 HI.out HZ0.out HZ1.out HZ2.out rfl symR rfl (.slice A4 (k + 1) c4) (O.take k ++ [x]) rfl HO4.out A5 (j - k) (co - k) (O.drop k) (fun b => b < w7.heap.size) rfl ((HA5.out.mono (fun b _ h => h.lt)).ext HX4.out) (fun b hb _ => ⟨trivial, fun e => by have := HO4.out.block b e.symm; omega⟩) (by have := HKL.out; simp; omega) (by have := HKL.out; simp; omega) (by exact HX4.out.size) ?_; intro A6 c6 w6 hown6 hg6 hloc; have HX6 := hid (HX4.out.grown hg6 (fun k hk => (HO4.out.block _ hk).1)); have HO6 := hid hown6; clear hown6 hg6 hloc; rw [List.length_append, HKL.out])
              | fail)
            first
              | go_roundw
              | refine ⟨?rel, ?measure⟩
            case rel =>
              have ho := HO6.out
              have e2 : (O.take k ++ [x]).length + (j - k) = j + 1 := by rw [List.length_append, HKL.out, List.length_singleton]; omega
              rw [e2, ← hnew.out, ← HST.out] at ho
              have e3 : k + 1 + (j - k) = j + 1 := by omega
              exact ⟨j + 1, A6, c6, by omega, by go_num, by rw [← e3], hid ho.sl, hid (HXV.out.trans HX6.out)⟩
            case measure => simp [intOf]; omega
        · have hnew : Hid (insR ltS x O = (O.take k ++ [x]) ++ O.drop k) := hid (by
            rw [List.append_assoc]
            exact insR_insP weakS HOS.out (by have := HOL.out; omega) (fun z h _ => by omega) HB.out)
          have i5 : ¬ (k : Int) > 0 := by omega
          have i6 : ¬ (0 : Int) < (k : Int) := by omega
          go_wp2_with fail
          refine wp_region_held_drew (S := (fun _ => True)) (by kernel_rfl) trivial (fun hSg14q0 => ?_)
          refine wpAnyH_takeL (i := 0) (v := ?g14qv0) rfl (by kernel_rfl) (by kernel_rfl) (by kernel_rfl) (fun _ _ _ h => h) (Or.inl ⟨by rfl, ?g14qy0⟩) (by assumption) ?g14qr0
          case g14qy0 => first | (intro w hSw; (try dsimp only at hSw); go_simp; done) | (intro w hSw; (try dsimp only at hSw); go_simp; with_reducible rfl)
          case' g14qr0 => try simp only [Act.put, List.setIfInBounds_toArray, List.set_cons_zero, List.set_cons_succ]
          refine wpAnyH_takeL (i := 1) (v := ?g14qv1) rfl (by kernel_rfl) (by kernel_rfl) (by kernel_rfl) (fun _ _ _ h => h) (Or.inl ⟨by rfl, ?g14qy1⟩) (by assumption) ?g14qr1
          case g14qy1 => first | (intro w hSw; (try dsimp only at hSw); go_simp; done) | (intro w hSw; (try dsimp only at hSw); go_simp; with_reducible rfl)
          case' g14qr1 => try simp only [Act.put, List.setIfInBounds_toArray, List.set_cons_zero, List.set_cons_succ]
          refine wpAnyH_takeL (i := 2) (v := ?g14qv2) rfl (by kernel_rfl) (by kernel_rfl) (by kernel_rfl) (fun _ _ _ h => h) (Or.inl ⟨by rfl, ?g14qy2⟩) (by assumption) ?g14qr2
          case g14qy2 => first | (intro w hSw; (try dsimp only at hSw); go_simp; done) | (intro w hSw; (try dsimp only at hSw); go_simp; with_reducible rfl)
          case' g14qr2 => try simp only [Act.put, List.setIfInBounds_toArray, List.set_cons_zero, List.set_cons_succ]
          refine wpAnyH_takeL (i := 3) (v := undef) rfl (by kernel_rfl) (by kernel_rfl) (by kernel_rfl) (fun _ _ _ h => h) (Or.inr ⟨by rfl, rfl⟩) (by assumption) ?g14qr3
          case' g14qr3 => try simp only [Act.put, List.setIfInBounds_toArray, List.set_cons_zero, List.set_cons_succ]
          refine wpAnyH_takeL (i := 4) (v := undef) rfl (by kernel_rfl) (by kernel_rfl) (by kernel_rfl) (fun _ _ _ h => h) (Or.inr ⟨by rfl, rfl⟩) (by assumption) ?g14qr4
          case' g14qr4 => try simp only [Act.put, List.setIfInBounds_toArray, List.set_cons_zero, List.set_cons_succ]
          refine wpAnyH_takeL (i := 5) (v := undef) rfl (by kernel_rfl) (by kernel_rfl) (by kernel_rfl) (fun _ _ _ h => h) (Or.inr ⟨by rfl, rfl⟩) (by assumption) ?g14qr5
          case' g14qr5 => try simp only [Act.put, List.setIfInBounds_toArray, List.set_cons_zero, List.set_cons_succ]
          refine wpAnyH_takeL (i := 6) (v := undef) rfl (by kernel_rfl) (by kernel_rfl) (by kernel_rfl) (fun _ _ _ h => h) (Or.inr ⟨by rfl, rfl⟩) (by assumption) ?g14qr6
          case' g14qr6 => try simp only [Act.put, List.setIfInBounds_toArray, List.set_cons_zero, List.set_cons_succ]
          refine wpAnyH_takeL (i := 7) (v := undef) rfl (by kernel_rfl) (by kernel_rfl) (by kernel_rfl) (fun _ _ _ h => h) (Or.inr ⟨by rfl, rfl⟩) (by assumption) ?g14qr7
          case' g14qr7 => try simp only [Act.put, List.setIfInBounds_toArray, List.set_cons_zero, List.set_cons_succ]
          refine wpAnyH_takeL (i := 8) (v := undef) rfl (by kernel_rfl) (by kernel_rfl) (by kernel_rfl) (fun _ _ _ h => h) (Or.inr ⟨by rfl, rfl⟩) (by assumption) ?g14qr8
          case' g14qr8 => try simp only [Act.put, List.setIfInBounds_toArray, List.set_cons_zero, List.set_cons_succ]
          refine wpAnyH_takeL (i := 9) (v := undef) rfl (by kernel_rfl) (by kernel_rfl) (by kernel_rfl) (fun _ _ _ h => h) (Or.inr ⟨by rfl, rfl⟩) (by assumption) ?g14qr9
          case' g14qr9 => try simp only [Act.put, List.setIfInBounds_toArray, List.set_cons_zero, List.set_cons_succ]
          refine wpAnyH_takeL (i := 10) (v := undef) rfl (by kernel_rfl) (by kernel_rfl) (by kernel_rfl) (fun _ _ _ h => h) (Or.inr ⟨by rfl, rfl⟩) (by assumption) ?g14qr10
          case' g14qr10 => try simp only [Act.put, List.setIfInBounds_toArray, List.set_cons_zero, List.set_cons_succ]
          refine wpAnyH_takeL (i := 11) (v := undef) rfl (by kernel_rfl) (by kernel_rfl) (by kernel_rfl) (fun _ _ _ h => h) (Or.inr ⟨by rfl, rfl⟩) (by assumption) ?g14qr11
          case' g14qr11 => try simp only [Act.put, List.setIfInBounds_toArray, List.set_cons_zero, List.set_cons_succ]
          refine wpAnyH_ready (rs := [12]) (by kernel_rfl) (by simp) ?_
          refine AllReadyH.consL rfl (fun K hK => ?_) AllReadyH.nil
          refine cast (if_neg (fun h => Bool.noConfusion (show false = true from h))).symm ?_
          refine hK.out _ _ (by assumption) (fun hSg14q1 => ?_)
          clear hK K
          try simp only [Act.put, List.setIfInBounds_toArray, List.set_cons_zero, List.set_cons_succ]
          refine wpAnyH_takeL (i := 13) (v := ?g14qv13) rfl (by kernel_rfl) (by kernel_rfl) (by kernel_rfl) (fun _ _ _ h => h) (Or.inl ⟨by rfl, ?g14qy13⟩) (by assumption) ?g14qr13
          case g14qy13 => first | (intro w hSw; (try dsimp only at hSw); go_simp; done) | (intro w hSw; (try dsimp only at hSw); go_simp; with_reducible rfl)
          case' g14qr13 => try simp only [Act.put, List.setIfInBounds_toArray, List.set_cons_zero, List.set_cons_succ]
          refine wpAnyH_done (by kernel_rfl) ?_ _
          obtain ⟨w7, hw7⟩ : ∃ w7, wr.drew = w7 := ⟨_, rfl⟩
          have HX7 : Hid (Ext wr w7) := hid (by rw [← hw7]; exact (Ext.refl wr).drew)
          have HXW := hid (HXR.out.trans HX7.out)
          rw [hw7]
          clear hw7 i5 i6 h2
          have HC7 : Hid (w7.cell? ⟨b, off + j * 3, none⟩ = some (.string x.name) ∧ w7.cell? ⟨b, off + j * 3 + 1, none⟩ = some (.int .u32 x.addr) ∧ w7.cell? ⟨b, off + j * 3 + 2, none⟩ = some (.int .i64 x.kind)) := hid ⟨HX7.out.cell c0, HX7.out.cell c1, HX7.out.cell c2⟩
          have HO7 := hid (HO.out.ext HXW.out)
          have HXV := hid (HX.out.trans HXW.out)
          have HKL := hid (show (O.take k).length = k by rw [List.length_take]; have := HOL.out; omega)
          clear c0 c1 c2 HX7 HXR HB HXW HO
          go_wp2_with (first
            | (refine wpList_to rfl 22 27 (.tmp 32) (.tmp 33) rfl Tryd.underlying22 i0 HI.out symR HZ1.out rfl HO7.out k rfl hk ?_; intro A2 hA2; have HA2 := hid hA2; clear hA2)
            | (at_builtin; refine wpList_appS rfl (.tmp 31) (.tmp 34) 22 rfl w7.heap.size 27 i0 _ 3 32 Tryd.underlying22 HI.out HZ0.out HZ1.out HZ2.out rfl symR rfl _ [] rfl (OwnS.fresh0 (T := All) w7 (Nat.le_refl _)) A2 k co (O.take k) (fun b => b < w7.heap.size) rfl ((HA2.out.mono (fun b _ h => h.lt)).ext ((Ext.refl w7).alloc _)) (fun _ hb _ => ⟨trivial, own_ne hb⟩) (by simp; omega) (by simp; omega) (by simp) ?_; intro A3 c3 w3 hown3 hg3 hloc; have HO3 : Hid (OwnS symR w3 w7.heap.size 27 All (.slice A3 k c3) (O.take k)) := hid (by simpa using hown3); clear hown3; have HX3 := hid (((Ext.refl w7).alloc _).grown hg3 (fun k hk => by rw [own_at hk]; simp)); clear hg3 hloc; have c0 := HX3.out.cell HC7.out.1; have c1 := HX3.out.cell HC7.out.2.1; have c2 := HX3.out.cell HC7.out.2.2; simp only [List.length_nil, Nat.zero_add])
            | (at_builtin; refine wpList_app1 rfl (.tmp 36) (.tmp 41) 22 rfl w7.heap.size 27 i0 _ 3 32 Tryd.underlying22 HI.out HZ0.out HZ1.out HZ2.out rfl symR rfl (.slice A3 k c3) (O.take k) rfl HO3.out x rfl ⟨rfl, hok.out⟩ (by have := HKL.out; omega) (by have := HKL.out; omega) (by exact HX3.out.size) ?_; intro A4 c4 w4 hown4 hg4; rw [HKL.out] at hown4; have hx4 := (HX3.out.alloc _).grown hg4 (fun k hk => (HO3.out.block _ hk).1); have HO4 := hid hown4; have HX4 := hid hx4; clear hown4 hg4 hx4 c0 c1 c2; rw [HKL.out])
            | (refine wpList_from rfl 22 27 (.tmp 44) (.tmp 45) rfl Tryd.underlying22 i0 HI.out symR HZ1.out rfl HO7.out k rfl hk ?_; intro A5 hA5; have HA5 := hid hA5; clear hA5)
            | (at_builtin; refine wpList_appS rfl (.tmp 43) (.tmp 46) 22 rfl w7.heap.size 27 i0 _ 3 32 Tryd.underlying22 HI.out HZ0.out HZ1.out HZ2.out rfl symR rfl (.slice A4 (k + 1) c4) (O.take k ++ [x]) rfl HO4.out A5 (j - k) (co - k) (O.drop k) (fun b => b < w7.heap.size) rfl ((HA5.out.mono (fun b _ h => h.lt)).ext HX4.out) (fun b hb _ => ⟨trivial, fun e => by have := HO4.out.block b e.symm; omega⟩) (by have := HKL.out; simp; omega) (by have := HKL.out; simp; omega) (by exact HX4.out.size) ?_; intro A6 c6 w6 hown6 hg6 hloc; have HX6 := hid (HX4.out.grown hg6 (fun k hk => (HO4.out.block _ hk).1)); have HO6 := hid hown6; clear hown6 hg6 hloc; rw [List.length_append, HKL.out])
            | fail)
          first
            | go_roundw
            | refine ⟨?rel, ?measure⟩
          case rel =>
            have ho := HO6.out
            have e2 : (O.take k ++ [x]).length + (j - k) = j + 1 := by rw [List.length_append, HKL.out, List.length_singleton]; omega
            rw [e2, ← hnew.out, ← HST.out] at ho
            have e3 : k + 1 + (j - k) = j + 1 := by omega
            exact ⟨j + 1, A6, c6, by omega, by go_num, by rw [← e3], hid ho.sl, hid (HXV.out.trans HX6.out)⟩
          case measure => simp [intOf]; omega
    · obtain rfl : j = n := by omega
      go_wp2
      go_ret
      rw [List.take_of_length_le (by have := HLN.out; omega)] at HO
      refine ⟨Ao, co, ?_, ?_, HX.out⟩
      · have e := HO.out.len; rw [← e]; rfl
      · have e := HO.out.len; rw [← e]; exact HO.out
end Go.Proofs.YtekilcnkinmakaaDoor
