/- symbol.Nearest. -/
import Derived.Test.YtekilcnkinmakaaDoorSymD
namespace Go.Proofs.YtekilcnkinmakaaDoor
open Go.RowKit Go.Deco
set_option linter.unusedSimpArgs false
set_option linter.unusedVariables false

def distOf (o : Option Sy) (a : Nat) : Nat := match o with | none => 0 | some s => a - s.addr
/-- A symbol, its distance, and whether there is one. -/
def NearIs (w : World) (o : Option Sy) (a : Nat) (e : Ending) (w' : World) : Prop := Ext w w' ∧ e = .returned (.tuple #[syVal (o.getD Sy.zero), .int .u32 (distOf o a), .bool o.isSome])

set_option maxRecDepth 100000 in
set_option maxHeartbeats 2000000 in
theorem synear_any (w : World) (A : Option Addr) (n c : Nat) (l : List Sy) (hl : Sl symR w All (.slice A n c) l) (a : Nat) (ha : a < 4294967296) :
    Calls Tryd.prog 13 #[.slice A n c, .int .u32 a] w (NearIs w (nearSy l a) a) := by
  have hln := hl.len
  obtain ⟨hnc, hcm⟩ := hl.cap
  obtain ⟨o, ho⟩ : ∃ o, nearSy l a = o := ⟨_, rfl⟩
  rw [ho]
  have HO := hid ho
  obtain ⟨W0, hW0⟩ : ∃ W0, w.alloc (.cells #[.string ⟨#[]⟩, .int .u32 0, .int .i64 0] 27) = W0 := ⟨_, rfl⟩
  have hE0 : Ext w W0 := by rw [← hW0]; exact (Ext.refl w).alloc _
  have hr0 : SyAt W0 w.heap.size Sy.zero := by
    rw [← hW0]
    exact SyAt.new w Sy.zero 27
  have HE0 := hid hE0
  have HR0 := hid hr0
  have HL := hid hl
  have HLN := hid hln
  clear ho hE0 hr0 hl hln
  go_enter Tryd.func13, Tryd.ntmps13
  go_wp2
  clear hW0
  go_loopw [15, 7, 8] (fun i bs ok wr => ∃ (k : Nat) (f : Option Nat), k ≤ n ∧ i = .int .i64 k ∧ bs = .int .u32 (f.getD 0 : Nat) ∧ ok = .bool f.isSome ∧ Hid ((l.take k).foldl (nearStep a) none = f) ∧ Hid (Ext w wr) ∧ Hid (SyAt wr w.heap.size Sy.zero)) (fun i _ _ _ => n - (intOf i).toNat)
  case atStart => exact ⟨0, none, by omega, rfl, rfl, rfl, hid rfl, HE0, HR0⟩
  case round =>
    obtain ⟨k, f, hk, rfl, rfl, rfl, HF, HX, HR⟩ := hrel
    by_cases h1 : k < n
    · obtain ⟨s, hs⟩ : ∃ s, l[k]? = some s := ⟨_, List.getElem?_eq_getElem (by have := HLN.out; omega)⟩
      obtain ⟨b, off, rfl, c0, c1, c2, ha32, -, -, -⟩ := Sl.sym_at (HL.out.ext HX.out) hs
      have hfs := fold_snoc (f := nearStep a) (x := none) hs
      rw [HF.out] at hfs
      have HFS := hid hfs
      have HRR := hid (HR.out.ext ((Ext.refl _).alloc (.cells #[.string s.name, .int .u32 s.addr, .int .i64 s.kind] 27)))
      have HXX := hid (HX.out.alloc (.cells #[.string s.name, .int .u32 s.addr, .int .i64 s.kind] 27))
      clear hs hfs
      by_cases h2 : s.addr ≤ a
      · cases f with
        | none =>
          have HF2 : Hid ((l.take (k + 1)).foldl (nearStep a) none = some s.addr) := hid (by rw [HFS.out]; unfold nearStep; rw [if_pos h2])
          go_wp2
          first
            | go_roundw
            | refine ⟨?rel, ?measure⟩
          case rel => exact ⟨k + 1, some s.addr, by omega, by go_num, rfl, rfl, HF2, HXX, HRR⟩
          case measure => simp [intOf]; omega
        | some b0 =>
          by_cases h3 : b0 < s.addr
          · have HF2 : Hid ((l.take (k + 1)).foldl (nearStep a) none = some s.addr) := hid (by rw [HFS.out]; unfold nearStep; rw [if_pos h2]; simp [h3])
            simp only [Option.getD_some, Option.isSome_some]
            go_wp2
            first
              | go_roundw
              | refine ⟨?rel, ?measure⟩
            case rel => exact ⟨k + 1, some s.addr, by omega, by go_num, rfl, rfl, HF2, HXX, HRR⟩
            case measure => simp [intOf]; omega
          · have HF2 : Hid ((l.take (k + 1)).foldl (nearStep a) none = some b0) := hid (by rw [HFS.out]; unfold nearStep; rw [if_pos h2]; simp [h3])
            simp only [Option.getD_some, Option.isSome_some]
            go_wp2
            first
              | go_roundw
              | refine ⟨?rel, ?measure⟩
            case rel => exact ⟨k + 1, some b0, by omega, by go_num, rfl, rfl, HF2, HXX, HRR⟩
            case measure => simp [intOf]; omega
      · have HF2 : Hid ((l.take (k + 1)).foldl (nearStep a) none = f) := hid (by rw [HFS.out]; unfold nearStep; rw [if_neg h2])
        go_wp2
        first
          | go_roundw
          | refine ⟨?rel, ?measure⟩
        case rel => exact ⟨k + 1, f, by omega, by go_num, rfl, rfl, HF2, HXX, HRR⟩
        case measure => simp [intOf]; omega
    · obtain rfl : k = n := by omega
      have hfo : nearA l a = f := by
        rw [← HF.out, List.take_of_length_le (by have := HLN.out; omega)]
        rfl
      cases f with
      | none =>
        have hoo : o = none := by rw [← HO.out]; unfold nearSy; rw [hfo]
        subst hoo
        clear hfo
        obtain ⟨r0, r1, r2, r3⟩ := HR.out
        go_wp2
        refine bodyPost_ret (v := .tuple #[syVal Sy.zero, .int .u32 0, .bool false]) (by simp [results, Tryd.results13, go_sem, World.cell?_setCell_same, World.cell?_setCell_other, r0, r1, r2, syVal, Sy.zero]) rfl ?_
        exact ⟨ext_put3 (s := Sy.zero) HX.out (Nat.le_refl _), rfl⟩
      | some b0 =>
        have hoo : o = atSy l b0 := by rw [← HO.out]; unfold nearSy; rw [hfo]
        obtain ⟨q1, ⟨t, ht, hta⟩, -⟩ := nearA_some hfo
        obtain ⟨s, hs⟩ := atSy_is ht hta
        have hsa := (atSy_some hs).2.1
        have HS := hid hs
        have HSA := hid hsa
        have HOO := hid hoo
        clear hfo ht hta hs hsa hoo
        simp only [Option.getD_some, Option.isSome_some]
        go_wp2_with fail
        refine (syat_any wr A k c l (HL.out.ext HX.out) b0).mono ?_
        rintro e w1 ⟨hx1, rfl⟩
        rw [HS.out]
        have hoo2 : o = some s := by rw [HOO.out, HS.out]
        subst hoo2
        have HR1 := hid (HR.out.ext hx1)
        have HX1 := hid (HX.out.trans hx1)
        have HA1 := hid (SyAt.new w1 s 27)
        have HRA := hid (HR1.out.ext ((Ext.refl w1).alloc (.cells #[.string s.name, .int .u32 s.addr, .int .i64 s.kind] 27)))
        clear hx1
        obtain ⟨r0, r1, r2, r3⟩ := HR1.out
        have hlt := HR1.out.lt
        simp only [Option.getD_some, Option.isSome_some, syVal]
        go_wp2
        refine bodyPost_ret (v := .tuple #[syVal s, .int .u32 (distOf (some s) a), .bool true]) (by simp [results, Tryd.results13, go_sem, World.cell?_setCell_same, World.cell?_setCell_other, World.cell?_alloc_past, hlt, r0, r1, r2, syVal, distOf]; have := HSA.out; omega) rfl ?_
        exact ⟨(ext_put3 HX1.out (Nat.le_refl _)).alloc _, rfl⟩
end Go.Proofs.YtekilcnkinmakaaDoor
