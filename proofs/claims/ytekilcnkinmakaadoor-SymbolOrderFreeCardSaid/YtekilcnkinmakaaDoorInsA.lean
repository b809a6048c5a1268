/- decompilerref06.Insert: a number put into an ascending list. -/
import Derived.Test.YtekilcnkinmakaaDoorRows
import Derived.Test.YtekilcnkinmakaaDoorSlc
import Derived.Test.YtekilcnkinmakaaDoorSpecSec
import Derived.BigQuiet
namespace Go.Proofs.YtekilcnkinmakaaDoor
open Go.RowKit Go.Deco
set_option linter.unusedVariables false

theorem info_w32 : (Tryd.prog.info? 23).map (fun i => (i.zero, i.size, i.bytes)) = some (some (.int .u32 0), 1, 4) := by kernel_rfl

/-- What Insert computes. -/
def insOf (l : List Nat) (x : Nat) : List Nat :=
  match l with
  | [] => [x]
  | y :: r => if y < x then y :: insOf r x else if y = x then y :: r else x :: y :: r
theorem insOf_at : ∀ {l : List Nat} {x k : Nat}, (∀ j y, j < k → l[j]? = some y → y < x) → k ≤ l.length → insOf l x = l.take k ++ insOf (l.drop k) x
  | _, _, 0, _, _ => by simp
  | [], _, k + 1, _, h => by simp at h
  | y :: r, x, k + 1, h, hk => by
    have h0 := h 0 y (by omega) rfl
    have := insOf_at (l := r) (x := x) (k := k) (fun j z hj hz => h (j + 1) z (by omega) (by simpa using hz)) (by simpa using hk)
    simp [insOf, h0, this]
theorem insOf_new {l : List Nat} {x k : Nat} (h : ∀ j y, j < k → l[j]? = some y → y < x) (hk : k ≤ l.length) (hn : ∀ y, l[k]? = some y → x < y) : insOf l x = (l.take k ++ [x]) ++ l.drop k := by
  rw [insOf_at h hk, List.append_assoc]
  congr 1
  cases hd : l.drop k with
  | nil => rfl
  | cons y r =>
    have hy : l[k]? = some y := by
      have := congrArg (fun m => m[0]?) hd
      simpa using this
    have := hn y hy
    rw [insOf, if_neg (by omega), if_neg (by omega)]
    rfl
theorem insOf_old {l : List Nat} {x k : Nat} (h : ∀ j y, j < k → l[j]? = some y → y < x) (hk : l[k]? = some x) : insOf l x = l := by
  have hlt := (List.getElem?_eq_some_iff.1 hk).1
  rw [insOf_at h (by omega)]
  conv => rhs; rw [← List.take_append_drop k l]
  congr 1
  rw [drop_cons' hk, insOf, if_neg (by omega), if_pos rfl]
theorem insOf_length : ∀ (l : List Nat) (x : Nat), (insOf l x).length ≤ l.length + 1
  | [], x => by simp [insOf]
  | y :: r, x => by
    have := insOf_length r x
    rw [insOf]
    split
    · simp; omega
    · split <;> simp

/-- A list is handed back, in whatever memory. -/
def ListOf (w : World) (l : List Nat) (e : Ending) (w' : World) : Prop := Ext w w' ∧ ∃ A c, e = .returned (.slice A l.length c) ∧ Sl u32R w' All (.slice A l.length c) l

set_option maxRecDepth 100000 in
set_option maxHeartbeats 1000000 in
theorem insert_any (wo w : World) (ho : Ext wo w) (A : Option Addr) (n c : Nat) (l : List Nat) (hl : Sl u32R wo All (.slice A n c) l) (hn : n ≤ 1000000) (x : Nat) (hx : x < 4294967296) :
    Calls Tryd.prog 36 #[.slice A n c, .int .u32 x] w (ListOf w (insOf l x)) := by
  have hln := hl.len
  obtain ⟨hnc, hcm⟩ := hl.cap
  obtain ⟨i0, hi, hz0, hz1, hz2⟩ := info_parts info_w32
  obtain ⟨L, hL⟩ : ∃ L, insOf l x = L := ⟨_, rfl⟩
  rw [hL]
  have HL := hid hL; clear hL
  have HI := hid hi; clear hi
  have HZ0 := hid hz0; clear hz0
  have HZ1 := hid hz1; clear hz1
  have HZ2 := hid hz2; clear hz2
  have HS := hid hl; clear hl
  have HLN := hid hln; clear hln
  have HO := hid ho; clear ho
  go_enter Tryd.func36, Tryd.ntmps36
  go_wp2
  go_loop [5] (fun i => ∃ k : Nat, k ≤ n ∧ i = .int .i64 k ∧ Hid (∀ j y, j < k → l[j]? = some y → y < x)) (fun i => n - (intOf i).toNat)
  case atStart => exact ⟨0, by omega, rfl, hid (fun j y hj _ => by omega)⟩
  case round =>
    obtain ⟨k, hk, rfl, hb⟩ := hrel
    by_cases h1 : k < n
    · obtain ⟨y, hy⟩ : ∃ y, l[k]? = some y := ⟨_, List.getElem?_eq_getElem (by have := HLN.out; omega)⟩
      obtain ⟨b, off, rfl, cc, hlt⟩ := HS.out.num_at hy
      have cc := HO.out.cell cc
      have HY := hid hy; clear hy
      by_cases h2 : y < x
      · go_wp2
        go_round
        case rel =>
          refine ⟨k + 1, by omega, by go_num, hid fun j z hj hz => ?_⟩
          rcases Nat.lt_or_ge j k with h | h
          · exact hb.out j z h hz
          · obtain rfl : j = k := by omega
            have := HY.out.symm.trans hz
            injection this with this
            omega
        case measure => simp [intOf]; omega
      · by_cases h3 : y = x
        · subst h3
          have he : ((y : Int) == (y : Int)) = true := by simp
          go_wp2
          go_ret
          have e := insOf_old hb.out HY.out
          rw [HL.out] at e
          subst e
          obtain rfl := HLN.out
          exact ⟨Ext.refl w, some ⟨b, off, none⟩, c, rfl, HS.out.ext HO.out⟩
        · have hn1 : ((y : Int) == (x : Int)) = false := by simp; omega
          have hnew : Hid (insOf l x = (l.take k ++ [x]) ++ l.drop k) := hid (insOf_new hb.out (by have := HLN.out; omega) (fun z hz => by have := HY.out.symm.trans hz; injection this with this; omega))
          clear hb
          have HKL := hid (show (l.take k).length = k by rw [List.length_take]; have := HLN.out; omega)
          go_wp2_with (first
            | (refine wpList_to rfl 38 23 (.tmp 35) (.tmp 36) rfl Tryd.underlying38 i0 HI.out u32R HZ1.out rfl HS.out k rfl hk ?_; intro A2 hA2; have HA2 := hid hA2; clear hA2)
            | (at_builtin; refine wpList_appS rfl (.tmp 34) (.tmp 37) 38 rfl w.heap.size 23 i0 _ 1 4 Tryd.underlying38 HI.out HZ0.out HZ1.out HZ2.out rfl u32R rfl _ [] rfl (OwnS.fresh0 (T := All) w (Nat.le_refl _)) A2 k c (l.take k) (fun b => b < w.heap.size) rfl (((HA2.out.ext HO.out).mono (fun b _ h => h.lt)).ext ((Ext.refl w).alloc _)) (fun _ hb _ => ⟨trivial, own_ne hb⟩) (by simp; omega) (by simp; omega) (by simp) ?_; intro A3 c3 w3 hown3 hg3 hloc; have HO3 : Hid (OwnS u32R w3 w.heap.size 23 All (.slice A3 k c3) (l.take k)) := hid (by simpa using hown3); clear hown3; have HX3 := hid (((Ext.refl w).alloc _).grown hg3 (fun k hk => by rw [own_at hk]; simp)); clear hg3 hloc; simp only [List.length_nil, Nat.zero_add])
            | (at_builtin; refine wpList_app1 rfl (.tmp 39) (.tmp 41) 38 rfl w.heap.size 23 i0 _ 1 4 Tryd.underlying38 HI.out HZ0.out HZ1.out HZ2.out rfl u32R rfl (.slice A3 k c3) (l.take k) rfl HO3.out x rfl ⟨rfl, hx⟩ (by have := HKL.out; omega) (by have := HKL.out; omega) (by exact HX3.out.size) ?_; intro A4 c4 w4 hown4 hg4; rw [HKL.out] at hown4; have hx4 := (HX3.out.alloc _).grown hg4 (fun k hk => (HO3.out.block _ hk).1); have HO4 := hid hown4; have HX4 := hid hx4; clear hown4 hg4 hx4; rw [HKL.out])
            | (refine wpList_from rfl 38 23 (.tmp 44) (.tmp 45) rfl Tryd.underlying38 i0 HI.out u32R HZ1.out rfl HS.out k rfl hk ?_; intro A5 hA5; have HA5 := hid hA5; clear hA5)
            | (at_builtin; refine wpList_appS rfl (.tmp 43) (.tmp 46) 38 rfl w.heap.size 23 i0 _ 1 4 Tryd.underlying38 HI.out HZ0.out HZ1.out HZ2.out rfl u32R rfl (.slice A4 (k + 1) c4) (l.take k ++ [x]) rfl HO4.out A5 (n - k) (c - k) (l.drop k) (fun b => b < w.heap.size) rfl (((HA5.out.ext HO.out).mono (fun b _ h => h.lt)).ext HX4.out) (fun b hb _ => ⟨trivial, fun e => by have := HO4.out.block b e.symm; omega⟩) (by have := HKL.out; simp; omega) (by have := HKL.out; simp; omega) (by exact HX4.out.size) ?_; intro A6 c6 w6 hown6 hg6 hloc; have HX6 := hid (HX4.out.grown hg6 (fun k hk => (HO4.out.block _ hk).1)); have HO6 := hid hown6; clear hown6 hg6 hloc; rw [List.length_append, HKL.out])
            | fail)
          go_ret
          have e := hnew.out
          rw [HL.out] at e
          have ho := HO6.out
          rw [← e] at ho
          have e2 : (l.take k ++ [x]).length + (n - k) = L.length := by rw [ho.len]
          rw [e2] at ho
          refine ⟨HX6.out, A6, c6, ?_, ho.sl⟩
          rw [← e2, List.length_append, HKL.out]
          rfl
    · have hnew : Hid (insOf l x = (l.take k ++ [x]) ++ l.drop k) := hid (insOf_new hb.out (by have := HLN.out; omega) (fun z hz => by have := HLN.out; have := (List.getElem?_eq_some_iff.1 hz).1; omega))
      clear hb
      have HKL := hid (show (l.take k).length = k by rw [List.length_take]; have := HLN.out; omega)
      go_wp2_with (first
        | (refine wpList_to rfl 38 23 (.tmp 35) (.tmp 36) rfl Tryd.underlying38 i0 HI.out u32R HZ1.out rfl HS.out k rfl hk ?_; intro A2 hA2; have HA2 := hid hA2; clear hA2)
        | (at_builtin; refine wpList_appS rfl (.tmp 34) (.tmp 37) 38 rfl w.heap.size 23 i0 _ 1 4 Tryd.underlying38 HI.out HZ0.out HZ1.out HZ2.out rfl u32R rfl _ [] rfl (OwnS.fresh0 (T := All) w (Nat.le_refl _)) A2 k c (l.take k) (fun b => b < w.heap.size) rfl (((HA2.out.ext HO.out).mono (fun b _ h => h.lt)).ext ((Ext.refl w).alloc _)) (fun _ hb _ => ⟨trivial, own_ne hb⟩) (by simp; omega) (by simp; omega) (by simp) ?_; intro A3 c3 w3 hown3 hg3 hloc; have HO3 : Hid (OwnS u32R w3 w.heap.size 23 All (.slice A3 k c3) (l.take k)) := hid (by simpa using hown3); clear hown3; have HX3 := hid (((Ext.refl w).alloc _).grown hg3 (fun k hk => by rw [own_at hk]; simp)); clear hg3 hloc; simp only [List.length_nil, Nat.zero_add])
        | (at_builtin; refine wpList_app1 rfl (.tmp 39) (.tmp 41) 38 rfl w.heap.size 23 i0 _ 1 4 Tryd.underlying38 HI.out HZ0.out HZ1.out HZ2.out rfl u32R rfl (.slice A3 k c3) (l.take k) rfl HO3.out x rfl ⟨rfl, hx⟩ (by have := HKL.out; omega) (by have := HKL.out; omega) (by exact HX3.out.size) ?_; intro A4 c4 w4 hown4 hg4; rw [HKL.out] at hown4; have hx4 := (HX3.out.alloc _).grown hg4 (fun k hk => (HO3.out.block _ hk).1); have HO4 := hid hown4; have HX4 := hid hx4; clear hown4 hg4 hx4; rw [HKL.out])
        | (refine wpList_from rfl 38 23 (.tmp 44) (.tmp 45) rfl Tryd.underlying38 i0 HI.out u32R HZ1.out rfl HS.out k rfl hk ?_; intro A5 hA5; have HA5 := hid hA5; clear hA5)
        | (at_builtin; refine wpList_appS rfl (.tmp 43) (.tmp 46) 38 rfl w.heap.size 23 i0 _ 1 4 Tryd.underlying38 HI.out HZ0.out HZ1.out HZ2.out rfl u32R rfl (.slice A4 (k + 1) c4) (l.take k ++ [x]) rfl HO4.out A5 (n - k) (c - k) (l.drop k) (fun b => b < w.heap.size) rfl (((HA5.out.ext HO.out).mono (fun b _ h => h.lt)).ext HX4.out) (fun b hb _ => ⟨trivial, fun e => by have := HO4.out.block b e.symm; omega⟩) (by have := HKL.out; simp; omega) (by have := HKL.out; simp; omega) (by exact HX4.out.size) ?_; intro A6 c6 w6 hown6 hg6 hloc; have HX6 := hid (HX4.out.grown hg6 (fun k hk => (HO4.out.block _ hk).1)); have HO6 := hid hown6; clear hown6 hg6 hloc; rw [List.length_append, HKL.out])
        | fail)
      go_ret
      have e := hnew.out
      rw [HL.out] at e
      have ho := HO6.out
      rw [← e] at ho
      have e2 : (l.take k ++ [x]).length + (n - k) = L.length := by rw [ho.len]
      rw [e2] at ho
      refine ⟨HX6.out, A6, c6, ?_, ho.sl⟩
      rw [← e2, List.length_append, HKL.out]
      rfl
end Go.Proofs.YtekilcnkinmakaaDoor
