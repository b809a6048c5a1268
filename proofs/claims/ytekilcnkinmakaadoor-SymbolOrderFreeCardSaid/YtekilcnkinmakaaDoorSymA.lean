/- symbol: name, Find; decompilerref06: duplicate, Find. -/
import Derived.Test.YtekilcnkinmakaaDoorRows
import Derived.Test.YtekilcnkinmakaaDoorSymL
import Derived.Test.YtekilcnkinmakaaDoorMap
import Derived.Lib.Hide
namespace Go.Proofs.YtekilcnkinmakaaDoor
open Go.RowKit Go.Deco
set_option linter.unusedSimpArgs false
set_option linter.unusedVariables false

set_option maxRecDepth 100000 in
set_option maxHeartbeats 400000 in
theorem syname_any (w : World) (s : ByteArray) (hs : s.size ≤ 9223372036854775807) :
    Calls Tryd.prog 30 #[.string s] w fun e w' => e = .returned (.bool (nameB s)) ∧ Ext w w' := by
  have hcv := fun w s => run_bytes_of_string (P := Tryd.prog) w 9 33 5 s Tryd.underlying9 Tryd.underlying33 Tryd.underlying5
  have hb := bytes_cell w s (grownCap w s.size 0 5) 5
  have hx := hid (((Ext.refl w).alloc (.cells (bytesRow s (grownCap w s.size 0 5)) 5 ((bytesRow s (grownCap w s.size 0 5)).size, (bytesRow s (grownCap w s.size 0 5)).size + 1))).drew)
  go_enter Tryd.func30, Tryd.ntmps30
  go_wp2
  generalize grownCap w s.size 0 5 = cap at *
  clear hcv
  go_loop [8] (fun i => ∃ k : Nat, k ≤ s.size ∧ i = .int .i64 k ∧ ∀ j, j < k → okCh (chAt s j) = true) (fun i => s.size - (intOf i).toNat)
  case atStart => exact ⟨0, by omega, rfl, by omega⟩
  case round =>
    obtain ⟨k, hk, rfl, hall⟩ := hrel
    have HA := hid hall; clear hall
    by_cases h1 : k < s.size
    · have hc := hb (bytesRow s cap).size k h1
      have hlt := chAt_lt s k
      obtain ⟨c, hcc⟩ : ∃ c, c = chAt s k := ⟨_, rfl⟩
      rw [← hcc] at hc hlt
      have HC := hid hcc; clear hcc hb
      by_cases ho : okCh c = true
      · have HO := hid ho
        rw [okCh_iff] at ho
        rcases ho with ⟨h2, h3⟩ | ⟨h2, h3⟩ | ⟨h2, h3⟩ | rfl | rfl
        all_goals
          go_wp2
          go_round
          case rel =>
            refine ⟨k + 1, by omega, by go_num, fun j hj => ?_⟩
            rcases Nat.lt_or_ge j k with h | h
            · exact HA.out j h
            · rw [show j = k by omega, ← HC.out]
              exact HO.out
          case measure => simp [intOf]; omega
      · have HO := hid ho
        rw [okCh_iff] at ho
        have n1 : c < 97 ∨ 122 < c := by omega
        have n2 : c < 65 ∨ 90 < c := by omega
        have n3 : c < 48 ∨ 57 < c := by omega
        have n4 : ((c : Int) != 95) = true := by simp; omega
        have n5 : ((c : Int) != 46) = true := by simp; omega
        clear ho
        rcases n1 with n1 | n1
        · rcases n2 with n2 | n2
          · rcases n3 with n3 | n3
            all_goals
              go_wp2
              go_ret
              exact ⟨ret_bool (nameB_no h1 (by rw [← HC.out]; exact HO.out)), hx.out⟩
          · go_wp2
            go_ret
            exact ⟨ret_bool (nameB_no h1 (by rw [← HC.out]; exact HO.out)), hx.out⟩
        · go_wp2
          go_ret
          exact ⟨ret_bool (nameB_no h1 (by rw [← HC.out]; exact HO.out)), hx.out⟩
    · obtain rfl : k = s.size := by omega
      by_cases h2 : 1 ≤ s.size
      · go_wp2
        go_ret
        exact ⟨ret_bool (nameB_yes HA.out h2), hx.out⟩
      · go_wp2
        go_ret
        exact ⟨ret_bool (nameB_zero h2), hx.out⟩

theorem key_list (s : ByteArray) : s.toList = s.data.toList := ByteArray.toList_eq s
theorem str_eq (a b : ByteArray) : (a.toList == b.toList) = decide (a.data.toList = b.data.toList) := by
  rw [ByteArray.toList_eq, ByteArray.toList_eq, Bool.eq_iff_iff, beq_iff_eq, decide_eq_true_iff]
def syVal (s : Sy) : Value := .agg #[.string s.name, .int .u32 s.addr, .int .i64 s.kind]
/-- A symbol and whether there is one. -/
def SyIs (w : World) (o : Option Sy) (e : Ending) (w' : World) : Prop := Ext w w' ∧ e = .returned (.tuple #[syVal (o.getD Sy.zero), .bool o.isSome])

set_option maxRecDepth 100000 in
set_option maxHeartbeats 1000000 in
theorem syfind_any (w : World) (A : Option Addr) (n c : Nat) (l : List Sy) (hl : Sl symR w All (.slice A n c) l) (nm : ByteArray) :
    Calls Tryd.prog 23 #[.slice A n c, .string nm] w (SyIs w (findSy l nm.data.toList)) := by
  have hln := hl.len
  obtain ⟨hnc, hcm⟩ := hl.cap
  obtain ⟨o, ho⟩ : ∃ o, findSy l nm.data.toList = o := ⟨_, rfl⟩
  rw [ho]
  have HO := hid ho
  obtain ⟨W0, hW0⟩ : ∃ W0, w.alloc (.cells #[.string ⟨#[]⟩, .int .u32 0, .int .i64 0] 27) = W0 := ⟨_, rfl⟩
  have hE0 : Ext w W0 := by rw [← hW0]; exact (Ext.refl w).alloc _
  have r0 : W0.cell? ⟨w.heap.size, 0, none⟩ = some (.string ⟨#[]⟩) := by rw [← hW0]; simp [go_sem]
  have r1 : W0.cell? ⟨w.heap.size, 1, none⟩ = some (.int .u32 0) := by rw [← hW0]; simp [go_sem]
  have r2 : W0.cell? ⟨w.heap.size, 2, none⟩ = some (.int .i64 0) := by rw [← hW0]; simp [go_sem]
  have rf : ∀ i, W0.frozen? ⟨w.heap.size, i, none⟩ = false := fun i => by rw [← hW0]; simp [go_sem]
  have hs0 : w.heap.size < W0.heap.size := by rw [← hW0]; simp
  have HRC := hid (And.intro r0 (And.intro r1 (And.intro r2 rf)))
  have HE0 := hid hE0
  have HL := hid (hl.ext hE0)
  have HLN := hid hln
  have HS0 := hid hs0
  clear ho hE0 r0 r1 r2 rf hl hln hs0
  go_enter Tryd.func23, Tryd.ntmps23
  go_wp2
  clear hW0
  go_loopw [10] (fun i wr => ∃ k : Nat, k ≤ n ∧ i = .int .i64 k ∧ Hid (Ext W0 wr) ∧ Hid (∀ x ∈ l.take k, x.key ≠ nm.data.toList)) (fun i _ => n - (intOf i).toNat)
  case atStart => exact ⟨0, by omega, rfl, hid (Ext.refl _), hid (by simp)⟩
  case round =>
    obtain ⟨k, hk, rfl, HX, HN⟩ := hrel
    have r0 := HX.out.cell HRC.out.1
    have r1 := HX.out.cell HRC.out.2.1
    have r2 := HX.out.cell HRC.out.2.2.1
    have f0 := (HX.out.frozen (p := ⟨w.heap.size, 0, none⟩) HS0.out).trans (HRC.out.2.2.2 0)
    have f1 := (HX.out.frozen (p := ⟨w.heap.size, 1, none⟩) HS0.out).trans (HRC.out.2.2.2 1)
    have f2 := (HX.out.frozen (p := ⟨w.heap.size, 2, none⟩) HS0.out).trans (HRC.out.2.2.2 2)
    have HXW := hid (HE0.out.trans HX.out)
    have HBR := hid (Nat.lt_of_lt_of_le HS0.out HX.out.size)
    by_cases h1 : k < n
    · obtain ⟨s, hs⟩ : ∃ s, l[k]? = some s := ⟨_, List.getElem?_eq_getElem (by have := HLN.out; omega)⟩
      obtain ⟨b, off, rfl, c0, c1, c2, -, -, -, -⟩ := Sl.sym_at (HL.out.ext HX.out) hs
      have HK := hid hs
      clear hs
      by_cases h2 : s.key = nm.data.toList
      · have hb : (s.name.toList == nm.toList) = true := by rw [str_eq]; exact decide_eq_true h2
        have hfo : o = some s := by rw [← HO.out]; exact find_hit HK.out h2 HN.out
        subst hfo
        clear h2
        have hbr := HBR.out
        go_wp2
        refine bodyPost_ret (v := .tuple #[syVal s, .bool true]) (by simp [results, Tryd.results23, go_sem, World.cell?_alloc_past, World.cell?_setCell_same, World.cell?_setCell_other, hbr, r0, r1, r2, syVal]) rfl ?_
        have e1 := HXW.out
        first
          | exact ⟨(((e1.setCell (Nat.le_refl _) _).setCell (Nat.le_refl _) _).setCell (Nat.le_refl _) _).alloc _, rfl⟩
          | exact ⟨(((e1.alloc _).setCell (Nat.le_refl _) _).setCell (Nat.le_refl _) _).setCell (Nat.le_refl _) _, rfl⟩
      · have hb : (s.name.toList == nm.toList) = false := by rw [str_eq]; exact decide_eq_false h2
        have HN2 := hid (show ∀ x ∈ l.take (k + 1), x.key ≠ nm.data.toList by
          intro x hx
          rw [take_snoc' HK.out, List.mem_append] at hx
          rcases hx with hx | hx
          · exact HN.out x hx
          · simp at hx; rw [hx]; exact h2)
        clear h2
        go_wp2
        first
          | go_roundw
          | refine ⟨?rel, ?measure⟩
        case rel => exact ⟨k + 1, by omega, by go_num, hid (HX.out.alloc _), HN2⟩
        case measure => simp [intOf]; omega
    · obtain rfl : k = n := by omega
      have hfo : o = none := by
        rw [← HO.out]
        refine find_none fun x hx => HN.out x ?_
        rw [List.take_of_length_le (by have := HLN.out; omega)]
        exact hx
      subst hfo
      go_wp2
      refine bodyPost_ret (v := .tuple #[syVal Sy.zero, .bool false]) (by simp [results, Tryd.results23, go_sem, World.cell?_setCell_same, World.cell?_setCell_other, r0, r1, r2, syVal, Sy.zero]) rfl ?_
      exact ⟨((HXW.out.setCell (Nat.le_refl _) _).setCell (Nat.le_refl _) _).setCell (Nat.le_refl _) _, rfl⟩
end Go.Proofs.YtekilcnkinmakaaDoor
