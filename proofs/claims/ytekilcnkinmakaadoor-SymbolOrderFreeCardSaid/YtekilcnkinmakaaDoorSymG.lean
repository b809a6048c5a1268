/- symbol.Functions. -/
import Derived.Test.YtekilcnkinmakaaDoorSymB
import Derived.Test.YtekilcnkinmakaaDoorU32A
import Derived.Test.YtekilcnkinmakaaDoorApp
namespace Go.Proofs.YtekilcnkinmakaaDoor
open Go.RowKit Go.Deco
set_option linter.unusedSimpArgs false
set_option linter.unusedVariables false

/-- The addresses of functions, as they stand. -/
def fnAddrs (l : List Sy) : List Nat := (l.filter fun s => decide (s.kind = 1)).map Sy.addr
theorem fnAddrs_step {l : List Sy} {k : Nat} {s : Sy} (hk : l[k]? = some s) : fnAddrs (l.take (k + 1)) = if s.kind = 1 then fnAddrs (l.take k) ++ [s.addr] else fnAddrs (l.take k) := by
  rw [fnAddrs, take_snoc' hk, List.filter_append, List.map_append, List.filter_cons]
  by_cases h : s.kind = 1
  · simp [h, fnAddrs]
  · simp [h, fnAddrs]
theorem fnAddrs_len (l : List Sy) : (fnAddrs l).length ≤ l.length := by
  rw [fnAddrs, List.length_map]
  exact List.length_filter_le _ _
/-- The addresses of functions. -/
def fnsOf (l : List Sy) : List Nat := asc (fnAddrs l)

set_option maxRecDepth 100000 in
set_option maxHeartbeats 2000000 in
theorem syfuncs_any (w : World) (A : Option Addr) (n c : Nat) (l : List Sy) (hl : Sl symR w All (.slice A n c) l) (hn : n ≤ 1000) :
    Calls Tryd.prog 20 #[.slice A n c] w (ListOf w (fnsOf l)) := by
  obtain ⟨L, hL⟩ : ∃ L, fnsOf l = L := ⟨_, rfl⟩
  rw [hL]
  obtain ⟨i0, hi, hz0, hz1, hz2⟩ := info_parts info_w32
  have HI := hid hi
  have HZ0 := hid hz0
  have HZ1 := hid hz1
  have HZ2 := hid hz2
  have HL := hid hL
  have HN := hid hl.len
  obtain ⟨hnc, hcm⟩ := hl.cap
  have HS := hid hl
  clear hi hz0 hz1 hz2 hL hl
  go_enter Tryd.func20, Tryd.ntmps20
  go_wp2
  go_loopw [3, 8] (fun v i wr => ∃ (j : Nat) (A' : Option Addr) (c' : Nat) (M : List Nat), j ≤ n ∧ i = .int .i64 j ∧ v = .slice A' M.length c' ∧ M.length ≤ j ∧ Hid (OwnS u32R wr w.heap.size 23 All (.slice A' M.length c') M) ∧ Hid (Ext w wr) ∧ Hid (M = fnAddrs (l.take j))) (fun _ i _ => n - (intOf i).toNat)
  case atStart => exact ⟨0, none, 0, [], by omega, rfl, rfl, by simp, hid OwnS.nil, hid (Ext.refl _), hid rfl⟩
  case round =>
    obtain ⟨j, A', c', M, hj, rfl, rfl, hMl, HO, HX, HM⟩ := hrel
    by_cases h1 : j < n
    · obtain ⟨s, hs⟩ : ∃ s, l[j]? = some s := ⟨_, List.getElem?_eq_getElem (by have := HN.out; omega)⟩
      obtain ⟨b, off, rfl, c0, c1, c2, ha32, -, -, -⟩ := Sl.sym_at (HS.out.ext HX.out) hs
      have hst := fnAddrs_step hs
      have HX3 := hid ((Ext.refl wr).alloc (.cells #[.string s.name, .int .u32 s.addr, .int .i64 s.kind] 27))
      have HO3 := hid (HO.out.ext HX3.out)
      have HX4 := hid (HX.out.trans HX3.out)
      clear hs
      by_cases h2 : s.kind = 1
      · rw [if_pos h2] at hst
        have HST := hid hst
        have h2' : (s.kind == 1) = true := by simpa using h2
        clear hst h2
        go_wp2_with (first
          | (at_builtin; refine wpList_app1s rfl (.tmp 15) (.tmp 18) 38 rfl w.heap.size 23 i0 _ 1 4 Tryd.underlying38 HI.out HZ0.out HZ1.out HZ2.out rfl u32R rfl (.slice A' M.length c') M rfl HO3.out (wr.heap.size + 1) (by simp) s.addr rfl ⟨rfl, ha32⟩ (by omega) (by omega) (by exact HX4.out.size) ?_; intro A5 c5 w5 hown5 hg5; have HO5 := hid hown5; have HX5 := hid ((HX4.out.alloc _).grown hg5 (fun k hk => (HO3.out.block _ hk).1)); clear hown5 hg5)
          | fail)
        first
          | go_roundw
          | refine ⟨?rel, ?measure⟩
        case rel => exact ⟨j + 1, A5, c5, M ++ [s.addr], by omega, by go_num, by simp, by simp; omega, hid (by simpa using HO5.out), HX5, hid (by rw [HST.out, HM.out])⟩
        case measure => simp [intOf]; omega
      · rw [if_neg h2] at hst
        have HST := hid hst
        have h2' : (s.kind == 1) = false := by simpa using h2
        clear hst h2
        go_wp2
        first
          | go_roundw
          | refine ⟨?rel, ?measure⟩
        case rel => exact ⟨j + 1, A', c', M, by omega, by go_num, rfl, by omega, HO3, HX4, hid (by rw [HST.out, HM.out])⟩
        case measure => simp [intOf]; omega
    · obtain rfl : j = n := by omega
      have he : asc M = L := by
        rw [HM.out, List.take_of_length_le (by have := HN.out; omega)]
        exact HL.out
      have HE := hid he
      have hMl2 : M.length < 4611686018427387904 := by omega
      clear he
      go_wp2_with fail
      refine (sort_own HO.out hMl2).mono ?_
      rintro e w2 ⟨rfl, ho2, hg2⟩
      have HO2 := hid ho2
      have HX2 := hid (HX.out.grown hg2 (fun k hk => (HO.out.block _ hk).1))
      clear ho2 hg2
      go_wp2_with fail
      refine (compact_any w w2 HX2.out A' M.length c' (sorted32 M) HO2.out (by omega)).mono ?_
      rintro e w3 ⟨hx3, A3, c3, rfl, ho3⟩
      have e2 : ddn (sorted32 M) M.length = L := by
        have h1 : (sorted32 M).Pairwise (· ≤ ·) := by
          have : (sorted32 M).Pairwise (fun a b => decide (a ≤ b) = true) := List.pairwise_mergeSort (fun a b c h1 h2 => by simp at h1 h2 ⊢; omega) (fun a b => by simp; omega) M
          exact this.imp fun h => by simpa using h
        rw [ddn_sorted h1 M.length (by rw [sorted32_length]; exact Nat.le_refl _), List.take_of_length_le (by rw [sorted32_length]; exact Nat.le_refl _), ← HE.out]
        exact asc_eq fun a => sorted32_mem
      have HX3 := hid hx3
      have HS3 := hid ho3.sl
      rw [e2] at HS3 ⊢
      clear hx3 ho3 e2
      go_wp2
      go_ret
      exact ⟨HX3.out, A3, c3, rfl, HS3.out⟩
end Go.Proofs.YtekilcnkinmakaaDoor
