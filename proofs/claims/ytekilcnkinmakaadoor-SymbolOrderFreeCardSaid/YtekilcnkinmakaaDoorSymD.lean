/- symbol.At. -/
import Derived.Test.YtekilcnkinmakaaDoorSymC
import Derived.Test.YtekilcnkinmakaaDoorSyAt
namespace Go.Proofs.YtekilcnkinmakaaDoor
open Go.RowKit Go.Deco
set_option linter.unusedSimpArgs false
set_option linter.unusedVariables false

set_option maxRecDepth 100000 in
set_option maxHeartbeats 2000000 in
theorem syat_any (w : World) (A : Option Addr) (n c : Nat) (l : List Sy) (hl : Sl symR w All (.slice A n c) l) (a : Nat) :
    Calls Tryd.prog 22 #[.slice A n c, .int .u32 a] w (SyIs w (atSy l a)) := by
  have hln := hl.len
  obtain ⟨hnc, hcm⟩ := hl.cap
  obtain ⟨o, ho⟩ : ∃ o, atSy l a = o := ⟨_, rfl⟩
  rw [ho]
  have HO := hid ho
  obtain ⟨W0, hW0⟩ : ∃ W0, (w.alloc (.cells #[.string ⟨#[]⟩, .int .u32 0, .int .i64 0] 27)).alloc (.cells #[.string ⟨#[]⟩, .int .u32 0, .int .i64 0] 27) = W0 := ⟨_, rfl⟩
  have hE0 : Ext w W0 := by rw [← hW0]; exact ((Ext.refl w).alloc _).alloc _
  have hr0 : SyAt W0 w.heap.size Sy.zero := by
    rw [← hW0]
    exact (SyAt.new w Sy.zero 27).ext ((Ext.refl _).alloc _)
  have hf0 : SyAt W0 (w.heap.size + 1) Sy.zero := by
    rw [← hW0]
    have := SyAt.new (w.alloc (.cells #[.string ⟨#[]⟩, .int .u32 0, .int .i64 0] 27)) Sy.zero 27
    rw [World.size_alloc] at this
    exact this
  have hs0 : w.heap.size + 1 < W0.heap.size := by rw [← hW0]; simp
  have HE0 := hid hE0
  have HR0 := hid hr0
  have HF0 := hid hf0
  have HS0 := hid hs0
  have HL := hid hl
  have HLN := hid hln
  clear ho hE0 hr0 hf0 hl hln hs0
  go_enter Tryd.func22, Tryd.ntmps22
  go_wp2
  clear hW0
  go_loopw [12, 7] (fun i ok wr => ∃ (k : Nat) (f : Option Sy), k ≤ n ∧ i = .int .i64 k ∧ ok = .bool f.isSome ∧ Hid ((l.take k).foldl (atStep a) none = f) ∧ Hid (Ext w wr) ∧ Hid (SyAt wr w.heap.size Sy.zero) ∧ Hid (SyAt wr (w.heap.size + 1) (f.getD Sy.zero)) ∧ Hid (∀ x, f = some x → x.addr = a)) (fun i _ _ => n - (intOf i).toNat)
  case atStart => exact ⟨0, none, by omega, rfl, rfl, hid rfl, HE0, HR0, HF0, hid (by simp)⟩
  case round =>
    obtain ⟨k, f, hk, rfl, rfl, HF, HX, HR, HB, HAD⟩ := hrel
    by_cases h1 : k < n
    · obtain ⟨s, hs⟩ : ∃ s, l[k]? = some s := ⟨_, List.getElem?_eq_getElem (by have := HLN.out; omega)⟩
      obtain ⟨b, off, rfl, c0, c1, c2, ha32, -, -, -⟩ := Sl.sym_at (HL.out.ext HX.out) hs
      have hfs := fold_snoc (f := atStep a) (x := none) hs
      rw [HF.out] at hfs
      have HFS := hid hfs
      have HBR := hid HB.out.lt
      have HAL := hid (SyAt.new wr s 27)
      clear hs hfs
      by_cases h2 : s.addr = a
      · subst h2
        cases f with
        | none =>
          have HF2 : Hid ((l.take (k + 1)).foldl (atStep s.addr) none = some s) := hid (by rw [HFS.out, atStep, if_pos rfl]; rfl)
          obtain ⟨z0, z1, z2, z3⟩ := HB.out
          have hbr := HBR.out
          go_wp2
          first
            | go_roundw
            | refine ⟨?rel, ?measure⟩
          case rel => exact ⟨k + 1, some s, by omega, by go_num, rfl, HF2, hid ((ext_put3 HX.out (by omega)).alloc _), hid ((HR.out.putO (s := s) (by omega)).ext ((Ext.refl _).alloc _)), hid ((HB.out.put (s := s)).ext ((Ext.refl _).alloc _)), hid (fun x hx => by cases hx; rfl)⟩
          case measure => simp [intOf]; omega
        | some f =>
          have hfa := HAD.out f rfl
          obtain ⟨z0, z1, z2, z3⟩ := HB.out
          simp only [Option.getD_some] at z0 z1 z2
          rw [hfa] at z1
          have HFA := hid hfa
          have hbr := HBR.out
          have hcm0 : cmpS s f = cmpK s.key f.key := cmpS_at hfa.symm
          obtain ⟨r, hr⟩ : ∃ r, ltK s.key f.key = r := ⟨_, rfl⟩
          have hcl : decide (cmpS s f < 0) = r := by rw [hcm0, cmpK_lt, hr]
          have HCL := hid hcl
          have HR1 := hid hr
          have HFS2 : Hid ((l.take (k + 1)).foldl (atStep s.addr) none = if r then some s else some f) := hid (by
            rw [HFS.out, atStep, if_pos rfl]
            show (if ltK s.key f.key = true then _ else _) = _
            rw [hr])
          clear hfa hcl hr hcm0
          by_cases hq : s.name.toList = f.name.toList ∧ s.kind = f.kind
          · obtain ⟨q1, q2⟩ := hq
            have q3 : (s.name.toList == f.name.toList) = true := by simpa using q1
            have q4 : (s.kind == f.kind) = true := by simpa using q2
            obtain rfl : r = false := by
              rw [← HR1.out, Sy.key, Sy.key, ← key_list, ← key_list, q1, ltK_irr]
            go_wp2
            first
              | go_roundw
              | refine ⟨?rel, ?measure⟩
            case rel => exact ⟨k + 1, some f, by omega, by go_num, rfl, HFS2, hid (HX.out.alloc _), hid (HR.out.ext ((Ext.refl _).alloc _)), hid (HB.out.ext ((Ext.refl _).alloc _)), hid (fun x hx => by cases hx; exact HFA.out)⟩
            case measure => simp [intOf]; omega
          · have hcall := fun (w : World) => syorder_any w s f
            unfold syVal at hcall
            rw [HFA.out] at hcall
            have HCA := hid hcall
            clear hcall
            by_cases q1 : s.name.toList = f.name.toList
            · have q2 : ¬ s.kind = f.kind := fun h => hq ⟨q1, h⟩
              clear hq
              go_wp2_with fail
              refine (HCA.out _).mono ?_
              rintro e w1 ⟨rfl, hx⟩
              have HX1 := hid (((Ext.refl wr).alloc (.cells #[.string s.name, .int .u32 s.addr, .int .i64 s.kind] 27)).trans hx)
              have HA1 := hid (HAL.out.ext hx)
              have HB1 := hid (HB.out.ext HX1.out)
              have HR2 := hid (HR.out.ext HX1.out)
              obtain ⟨z, hz⟩ : ∃ z, cmpS s f = z := ⟨_, rfl⟩
              have hzr : decide (z < 0) = r := by rw [← hz]; exact HCL.out
              rw [hz]
              clear hx hz z0 z1 z2 z3
              obtain ⟨y0, y1, y2, -⟩ := HA1.out
              obtain ⟨z0, z1, z2, z3⟩ := HB1.out
              simp only [Option.getD_some] at z0 z1 z2
              rw [HFA.out] at z1
              have hbr1 := HB1.out.lt
              have hbr2 := HA1.out.lt
              have hne : w.heap.size + 1 < wr.heap.size := hbr
              cases r with
              | false =>
                go_wp2
                first
                  | go_roundw
                  | refine ⟨?rel, ?measure⟩
                case rel => exact ⟨k + 1, some f, by omega, by go_num, rfl, HFS2, hid (HX.out.trans HX1.out), HR2, HB1, hid (fun x hx => by cases hx; exact HFA.out)⟩
                case measure => simp [intOf]; omega
              | true =>
                go_wp2
                first
                  | go_roundw
                  | refine ⟨?rel, ?measure⟩
                case rel => exact ⟨k + 1, some s, by omega, by go_num, rfl, HFS2, hid (ext_put3 (HX.out.trans HX1.out) (by omega)), hid (HR2.out.putO (s := s) (by omega)), hid (HB1.out.put (s := s)), hid (fun x hx => by cases hx; rfl)⟩
                case measure => simp [intOf]; omega
            · have q2 : (s.name.toList == f.name.toList) = false := by simpa using q1
              clear hq
              go_wp2_with fail
              refine (HCA.out _).mono ?_
              rintro e w1 ⟨rfl, hx⟩
              have HX1 := hid (((Ext.refl wr).alloc (.cells #[.string s.name, .int .u32 s.addr, .int .i64 s.kind] 27)).trans hx)
              have HA1 := hid (HAL.out.ext hx)
              have HB1 := hid (HB.out.ext HX1.out)
              have HR2 := hid (HR.out.ext HX1.out)
              obtain ⟨z, hz⟩ : ∃ z, cmpS s f = z := ⟨_, rfl⟩
              have hzr : decide (z < 0) = r := by rw [← hz]; exact HCL.out
              rw [hz]
              clear hx hz z0 z1 z2 z3
              obtain ⟨y0, y1, y2, -⟩ := HA1.out
              obtain ⟨z0, z1, z2, z3⟩ := HB1.out
              simp only [Option.getD_some] at z0 z1 z2
              rw [HFA.out] at z1
              have hbr1 := HB1.out.lt
              have hbr2 := HA1.out.lt
              have hne : w.heap.size + 1 < wr.heap.size := hbr
              cases r with
              | false =>
                go_wp2
                first
                  | go_roundw
                  | refine ⟨?rel, ?measure⟩
                case rel => exact ⟨k + 1, some f, by omega, by go_num, rfl, HFS2, hid (HX.out.trans HX1.out), HR2, HB1, hid (fun x hx => by cases hx; exact HFA.out)⟩
                case measure => simp [intOf]; omega
              | true =>
                go_wp2
                first
                  | go_roundw
                  | refine ⟨?rel, ?measure⟩
                case rel => exact ⟨k + 1, some s, by omega, by go_num, rfl, HFS2, hid (ext_put3 (HX.out.trans HX1.out) (by omega)), hid (HR2.out.putO (s := s) (by omega)), hid (HB1.out.put (s := s)), hid (fun x hx => by cases hx; rfl)⟩
                case measure => simp [intOf]; omega
      · have HF2 : Hid ((l.take (k + 1)).foldl (atStep a) none = f) := hid (by rw [HFS.out, atStep, if_neg h2])
        have h2' : ((s.addr : Int) == a) = false := by simp; omega
        obtain ⟨z0, z1, z2, z3⟩ := HB.out
        go_wp2
        first
          | go_roundw
          | refine ⟨?rel, ?measure⟩
        case rel => exact ⟨k + 1, f, by omega, by go_num, rfl, HF2, hid (HX.out.alloc _), hid (HR.out.ext ((Ext.refl _).alloc _)), hid (HB.out.ext ((Ext.refl _).alloc _)), HAD⟩
        case measure => simp [intOf]; omega
    · obtain rfl : k = n := by omega
      have hfo : f = o := by
        rw [← HF.out, ← HO.out, List.take_of_length_le (by have := HLN.out; omega)]
        rfl
      subst hfo
      obtain ⟨r0, r1, r2, r3⟩ := HR.out
      obtain ⟨z0, z1, z2, z3⟩ := HB.out
      have hlt := HB.out.lt
      go_wp2
      refine bodyPost_ret (v := .tuple #[syVal (f.getD Sy.zero), .bool f.isSome]) (by simp [results, Tryd.results22, go_sem, World.cell?_setCell_same, World.cell?_setCell_other, r0, r1, r2, syVal]) rfl ?_
      exact ⟨ext_put3 HX.out (Nat.le_refl _), rfl⟩
end Go.Proofs.YtekilcnkinmakaaDoor
