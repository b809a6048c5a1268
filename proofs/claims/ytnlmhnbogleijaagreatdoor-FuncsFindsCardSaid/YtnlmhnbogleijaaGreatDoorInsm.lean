/- decompilerref06.Insert: a number put into an ascending list. Ascending lists of numbers without duplicates. No walk. The call graph as plain data: callees, callers, what a function leads to, the components in order. No walk. -/
import Derived.Test.YtnlmhnbogleijaaGreatDoorRows
import Derived.Test.YtnlmhnbogleijaaGreatDoorLasm
import Derived.Test.YtnlmhnbogleijaaGreatDoorSpecSec
import Derived.BigQuiet
namespace Go.Proofs.YtnlmhnbogleijaaGreatDoor
open Go.RowKit Go.Deco
set_option linter.unusedVariables false

theorem info_w32 : (Tryz.prog.info? 38).map (fun i => (i.zero, i.size, i.bytes)) = some (some (.int .u32 0), 1, 4) := by kernel_rfl

/-- What Insert computes. -/
def insOf (l : List Nat) (x : Nat) : List Nat :=
  match l with
  | [] => [x]
  | y :: r => if y < x then y :: insOf r x else if y = x then y :: r else x :: y :: r
theorem insOf_at : ∀ {l : List Nat} {x k : Nat}, (∀ j y, j < k → l[j]? = some y → y < x) → k ≤ l.length → insOf l x = l.take k ++ insOf (l.drop k) x
  | _, _, 0, _, _ => by simp
  | [], _, k + 1, _, h => by simp at h
  | y :: r, x, k + 1, h, hk => by
    have h0 := h 0 y (by omega) rfl
    have := insOf_at (l := r) (x := x) (k := k) (fun j z hj hz => h (j + 1) z (by omega) (by simpa using hz)) (by simpa using hk)
    simp [insOf, h0, this]
theorem insOf_new {l : List Nat} {x k : Nat} (h : ∀ j y, j < k → l[j]? = some y → y < x) (hk : k ≤ l.length) (hn : ∀ y, l[k]? = some y → x < y) : insOf l x = (l.take k ++ [x]) ++ l.drop k := by
  rw [insOf_at h hk, List.append_assoc]
  congr 1
  cases hd : l.drop k with
  | nil => rfl
  | cons y r =>
    have hy : l[k]? = some y := by
      have := congrArg (fun m => m[0]?) hd
      simpa using this
    have := hn y hy
    rw [insOf, if_neg (by omega), if_neg (by omega)]
    rfl
theorem insOf_old {l : List Nat} {x k : Nat} (h : ∀ j y, j < k → l[j]? = some y → y < x) (hk : l[k]? = some x) : insOf l x = l := by
  have hlt := (List.getElem?_eq_some_iff.1 hk).1
  rw [insOf_at h (by omega)]
  conv => rhs; rw [← List.take_append_drop k l]
  congr 1
  rw [drop_cons' hk, insOf, if_neg (by omega), if_pos rfl]
theorem insOf_length : ∀ (l : List Nat) (x : Nat), (insOf l x).length ≤ l.length + 1
  | [], x => by simp [insOf]
  | y :: r, x => by
    have := insOf_length r x
    rw [insOf]
    split
    · simp; omega
    · split <;> simp

/-- A list is handed back, in whatever memory. -/
def ListOf (w : World) (l : List Nat) (e : Ending) (w' : World) : Prop := Ext w w' ∧ ∃ A c, e = .returned (.slice A l.length c) ∧ Sl u32R w' All (.slice A l.length c) l

set_option maxRecDepth 100000 in
set_option maxHeartbeats 1000000 in
theorem insert_any (wo w : World) (ho : Ext wo w) (A : Option Addr) (n c : Nat) (l : List Nat) (hl : Sl u32R wo All (.slice A n c) l) (hn : n ≤ 1000000) (x : Nat) (hx : x < 4294967296) :
    Calls Tryz.prog 20 #[.slice A n c, .int .u32 x] w (ListOf w (insOf l x)) := by
  have hln := hl.len
  obtain ⟨hnc, hcm⟩ := hl.cap
  obtain ⟨i0, hi, hz0, hz1, hz2⟩ := info_parts info_w32
  obtain ⟨L, hL⟩ : ∃ L, insOf l x = L := ⟨_, rfl⟩
  rw [hL]
  have HL := hid hL; clear hL
  have HI := hid hi; clear hi
  have HZ0 := hid hz0; clear hz0
  have HZ1 := hid hz1; clear hz1
  have HZ2 := hid hz2; clear hz2
  have HS := hid hl; clear hl
  have HLN := hid hln; clear hln
  have HO := hid ho; clear ho
  go_enter Tryz.func20, Tryz.ntmps20
  go_wp2
  go_loop [5] (fun i => ∃ k : Nat, k ≤ n ∧ i = .int .i64 k ∧ Hid (∀ j y, j < k → l[j]? = some y → y < x)) (fun i => n - (intOf i).toNat)
  case atStart => exact ⟨0, by omega, rfl, hid (fun j y hj _ => by omega)⟩
  case round =>
    obtain ⟨k, hk, rfl, hb⟩ := hrel
    by_cases h1 : k < n
    · obtain ⟨y, hy⟩ : ∃ y, l[k]? = some y := ⟨_, List.getElem?_eq_getElem (by have := HLN.out; omega)⟩
      obtain ⟨b, off, rfl, cc, hlt⟩ := HS.out.num_at hy
      have cc := HO.out.cell cc
      have HY := hid hy; clear hy
      by_cases h2 : y < x
      · go_wp2
        go_round
        case rel =>
          refine ⟨k + 1, by omega, by go_num, hid fun j z hj hz => ?_⟩
          rcases Nat.lt_or_ge j k with h | h
          · exact hb.out j z h hz
          · obtain rfl : j = k := by omega
            have := HY.out.symm.trans hz
            injection this with this
            omega
        case measure => simp [intOf]; omega
      · by_cases h3 : y = x
        · subst h3
          have he : ((y : Int) == (y : Int)) = true := by simp
          go_wp2
          go_ret
          have e := insOf_old hb.out HY.out
          rw [HL.out] at e
          subst e
          obtain rfl := HLN.out
          exact ⟨Ext.refl w, some ⟨b, off, none⟩, c, rfl, HS.out.ext HO.out⟩
        · have hn1 : ((y : Int) == (x : Int)) = false := by simp; omega
          have hnew : Hid (insOf l x = (l.take k ++ [x]) ++ l.drop k) := hid (insOf_new hb.out (by have := HLN.out; omega) (fun z hz => by have := HY.out.symm.trans hz; injection this with this; omega))
          clear hb
          have HKL := hid (show (l.take k).length = k by rw [List.length_take]; have := HLN.out; omega)
          go_wp2_with (first
            | (refine wpList_to rfl 23 38 (.tmp 35) (.tmp 36) rfl Tryz.underlying23 i0 HI.out u32R HZ1.out rfl HS.out k rfl hk ?_; intro A2 hA2; have HA2 := hid hA2; clear hA2)
            | (at_builtin; refine wpList_appS rfl (.tmp 34) (.tmp 37) 23 rfl w.heap.size 38 i0 _ 1 4 Tryz.underlying23 HI.out HZ0.out HZ1.out HZ2.out rfl u32R rfl _ [] rfl (OwnS.fresh0 (T := All) w (Nat.le_refl _)) A2 k c (l.take k) (fun b => b < w.heap.size) rfl (((HA2.out.ext HO.out).mono (fun b _ h => h.lt)).ext ((Ext.refl w).alloc _)) (fun _ hb _ => ⟨trivial, own_ne hb⟩) (by simp; omega) (by simp; omega) (by simp) ?_; intro A3 c3 w3 hown3 hg3 hloc; have HO3 : Hid (OwnS u32R w3 w.heap.size 38 All (.slice A3 k c3) (l.take k)) := hid (by simpa using hown3); clear hown3; have HX3 := hid (((Ext.refl w).alloc _).grown hg3 (fun k hk => by rw [own_at hk]; simp)); clear hg3 hloc; simp only [List.length_nil, Nat.zero_add])
            | (at_builtin; refine wpList_app1 rfl (.tmp 39) (.tmp 41) 23 rfl w.heap.size 38 i0 _ 1 4 Tryz.underlying23 HI.out HZ0.out HZ1.out HZ2.out rfl u32R rfl (.slice A3 k c3) (l.take k) rfl HO3.out x rfl ⟨rfl, hx⟩ (by have := HKL.out; omega) (by have := HKL.out; omega) (by exact HX3.out.size) ?_; intro A4 c4 w4 hown4 hg4; rw [HKL.out] at hown4; have hx4 := (HX3.out.alloc _).grown hg4 (fun k hk => (HO3.out.block _ hk).1); have HO4 := hid hown4; have HX4 := hid hx4; clear hown4 hg4 hx4; rw [HKL.out])
            | (refine wpList_from rfl 23 38 (.tmp 44) (.tmp 45) rfl Tryz.underlying23 i0 HI.out u32R HZ1.out rfl HS.out k rfl hk ?_; intro A5 hA5; have HA5 := hid hA5; clear hA5)
            | (at_builtin; refine wpList_appS rfl (.tmp 43) (.tmp 46) 23 rfl w.heap.size 38 i0 _ 1 4 Tryz.underlying23 HI.out HZ0.out HZ1.out HZ2.out rfl u32R rfl (.slice A4 (k + 1) c4) (l.take k ++ [x]) rfl HO4.out A5 (n - k) (c - k) (l.drop k) (fun b => b < w.heap.size) rfl (((HA5.out.ext HO.out).mono (fun b _ h => h.lt)).ext HX4.out) (fun b hb _ => ⟨trivial, fun e => by have := HO4.out.block b e.symm; omega⟩) (by have := HKL.out; simp; omega) (by have := HKL.out; simp; omega) (by exact HX4.out.size) ?_; intro A6 c6 w6 hown6 hg6 hloc; have HX6 := hid (HX4.out.grown hg6 (fun k hk => (HO4.out.block _ hk).1)); have HO6 := hid hown6; clear hown6 hg6 hloc; rw [List.length_append, HKL.out])
            | fail)
          go_ret
          have e := hnew.out
          rw [HL.out] at e
          have ho := HO6.out
          rw [← e] at ho
          have e2 : (l.take k ++ [x]).length + (n - k) = L.length := by rw [ho.len]
          rw [e2] at ho
          refine ⟨HX6.out, A6, c6, ?_, ho.sl⟩
          rw [← e2, List.length_append, HKL.out]
          rfl
    · have hnew : Hid (insOf l x = (l.take k ++ [x]) ++ l.drop k) := hid (insOf_new hb.out (by have := HLN.out; omega) (fun z hz => by have := HLN.out; have := (List.getElem?_eq_some_iff.1 hz).1; omega))
      clear hb
      have HKL := hid (show (l.take k).length = k by rw [List.length_take]; have := HLN.out; omega)
      go_wp2_with (first
        | (refine wpList_to rfl 23 38 (.tmp 35) (.tmp 36) rfl Tryz.underlying23 i0 HI.out u32R HZ1.out rfl HS.out k rfl hk ?_; intro A2 hA2; have HA2 := hid hA2; clear hA2)
        | (at_builtin; refine wpList_appS rfl (.tmp 34) (.tmp 37) 23 rfl w.heap.size 38 i0 _ 1 4 Tryz.underlying23 HI.out HZ0.out HZ1.out HZ2.out rfl u32R rfl _ [] rfl (OwnS.fresh0 (T := All) w (Nat.le_refl _)) A2 k c (l.take k) (fun b => b < w.heap.size) rfl (((HA2.out.ext HO.out).mono (fun b _ h => h.lt)).ext ((Ext.refl w).alloc _)) (fun _ hb _ => ⟨trivial, own_ne hb⟩) (by simp; omega) (by simp; omega) (by simp) ?_; intro A3 c3 w3 hown3 hg3 hloc; have HO3 : Hid (OwnS u32R w3 w.heap.size 38 All (.slice A3 k c3) (l.take k)) := hid (by simpa using hown3); clear hown3; have HX3 := hid (((Ext.refl w).alloc _).grown hg3 (fun k hk => by rw [own_at hk]; simp)); clear hg3 hloc; simp only [List.length_nil, Nat.zero_add])
        | (at_builtin; refine wpList_app1 rfl (.tmp 39) (.tmp 41) 23 rfl w.heap.size 38 i0 _ 1 4 Tryz.underlying23 HI.out HZ0.out HZ1.out HZ2.out rfl u32R rfl (.slice A3 k c3) (l.take k) rfl HO3.out x rfl ⟨rfl, hx⟩ (by have := HKL.out; omega) (by have := HKL.out; omega) (by exact HX3.out.size) ?_; intro A4 c4 w4 hown4 hg4; rw [HKL.out] at hown4; have hx4 := (HX3.out.alloc _).grown hg4 (fun k hk => (HO3.out.block _ hk).1); have HO4 := hid hown4; have HX4 := hid hx4; clear hown4 hg4 hx4; rw [HKL.out])
        | (refine wpList_from rfl 23 38 (.tmp 44) (.tmp 45) rfl Tryz.underlying23 i0 HI.out u32R HZ1.out rfl HS.out k rfl hk ?_; intro A5 hA5; have HA5 := hid hA5; clear hA5)
        | (at_builtin; refine wpList_appS rfl (.tmp 43) (.tmp 46) 23 rfl w.heap.size 38 i0 _ 1 4 Tryz.underlying23 HI.out HZ0.out HZ1.out HZ2.out rfl u32R rfl (.slice A4 (k + 1) c4) (l.take k ++ [x]) rfl HO4.out A5 (n - k) (c - k) (l.drop k) (fun b => b < w.heap.size) rfl (((HA5.out.ext HO.out).mono (fun b _ h => h.lt)).ext HX4.out) (fun b hb _ => ⟨trivial, fun e => by have := HO4.out.block b e.symm; omega⟩) (by have := HKL.out; simp; omega) (by have := HKL.out; simp; omega) (by exact HX4.out.size) ?_; intro A6 c6 w6 hown6 hg6 hloc; have HX6 := hid (HX4.out.grown hg6 (fun k hk => (HO4.out.block _ hk).1)); have HO6 := hid hown6; clear hown6 hg6 hloc; rw [List.length_append, HKL.out])
        | fail)
      go_ret
      have e := hnew.out
      rw [HL.out] at e
      have ho := HO6.out
      rw [← e] at ho
      have e2 : (l.take k ++ [x]).length + (n - k) = L.length := by rw [ho.len]
      rw [e2] at ho
      refine ⟨HX6.out, A6, c6, ?_, ho.sl⟩
      rw [← e2, List.length_append, HKL.out]
      rfl
end Go.Proofs.YtnlmhnbogleijaaGreatDoor

namespace Go.Proofs.YtnlmhnbogleijaaGreatDoor
open Go.RowKit Go.Deco
set_option linter.unusedVariables false

theorem ins_mem : ∀ (l : List Nat) (x a : Nat), a ∈ insOf l x ↔ a = x ∨ a ∈ l
  | [], x, a => by simp [insOf]
  | y :: r, x, a => by
    rw [insOf]
    split
    · rw [List.mem_cons, ins_mem r x a, List.mem_cons]
      constructor
      · rintro (h | h | h)
        · exact .inr (.inl h)
        · exact .inl h
        · exact .inr (.inr h)
      · rintro (h | h | h)
        · exact .inr (.inl h)
        · exact .inl h
        · exact .inr (.inr h)
    · split
      · subst_vars
        simp
      · simp
theorem ins_asc : ∀ {l : List Nat} {x : Nat}, l.Pairwise (· < ·) → (insOf l x).Pairwise (· < ·)
  | [], x, _ => by simp [insOf]
  | y :: r, x, h => by
    rw [List.pairwise_cons] at h
    rw [insOf]
    split
    · rename_i hyx
      rw [List.pairwise_cons]
      refine ⟨fun a ha => ?_, ins_asc h.2⟩
      rcases (ins_mem r x a).1 ha with rfl | h1
      · exact hyx
      · exact h.1 a h1
    · split
      · exact List.pairwise_cons.2 h
      · rw [List.pairwise_cons]
        refine ⟨fun a ha => ?_, List.pairwise_cons.2 h⟩
        rcases List.mem_cons.1 ha with rfl | h1
        · omega
        · have := h.1 a h1
          omega
/-- Two ascending lists with the same elements. -/
theorem pw_ext : ∀ {l m : List Nat}, l.Pairwise (· < ·) → m.Pairwise (· < ·) → (∀ a, a ∈ l ↔ a ∈ m) → l = m
  | [], [], _, _, _ => rfl
  | [], y :: r, _, _, h => absurd ((h y).2 (by simp)) (by simp)
  | x :: l, [], _, _, h => absurd ((h x).1 (by simp)) (by simp)
  | x :: l, y :: m, hl, hm, h => by
    rw [List.pairwise_cons] at hl hm
    have e : x = y := by
      rcases List.mem_cons.1 ((h x).1 (by simp)) with h1 | h1
      · exact h1
      · rcases List.mem_cons.1 ((h y).2 (by simp)) with h2 | h2
        · exact h2.symm
        · have := hm.1 x h1
          have := hl.1 y h2
          omega
    subst e
    congr 1
    refine pw_ext hl.2 hm.2 fun a => ⟨fun ha => ?_, fun ha => ?_⟩
    · rcases List.mem_cons.1 ((h a).1 (List.mem_cons_of_mem _ ha)) with h1 | h1
      · have := hl.1 a ha
        omega
      · exact h1
    · rcases List.mem_cons.1 ((h a).2 (List.mem_cons_of_mem _ ha)) with h1 | h1
      · have := hm.1 a ha
        omega
      · exact h1

/-- The numbers of a list, ascending, none twice. -/
def asc (l : List Nat) : List Nat := l.foldl insOf []
theorem foldl_ins_mem : ∀ (l acc : List Nat) (a : Nat), a ∈ l.foldl insOf acc ↔ a ∈ l ∨ a ∈ acc
  | [], acc, a => by simp
  | x :: l, acc, a => by
    rw [List.foldl_cons, foldl_ins_mem l, ins_mem, List.mem_cons]
    constructor
    · rintro (h | h | h)
      · exact .inl (.inr h)
      · exact .inl (.inl h)
      · exact .inr h
    · rintro ((h | h) | h)
      · exact .inr (.inl h)
      · exact .inl h
      · exact .inr (.inr h)
theorem foldl_ins_asc : ∀ (l : List Nat) {acc : List Nat}, acc.Pairwise (· < ·) → (l.foldl insOf acc).Pairwise (· < ·)
  | [], _, h => h
  | x :: l, _, h => foldl_ins_asc l (ins_asc h)
theorem foldl_ins_len : ∀ (l acc : List Nat), (l.foldl insOf acc).length ≤ l.length + acc.length
  | [], acc => by simp
  | x :: l, acc => by
    have h1 := foldl_ins_len l (insOf acc x)
    have h2 := insOf_length acc x
    rw [List.foldl_cons, List.length_cons]
    omega
theorem asc_mem {l : List Nat} {a : Nat} : a ∈ asc l ↔ a ∈ l := by
  rw [asc, foldl_ins_mem]
  simp
theorem asc_pw (l : List Nat) : (asc l).Pairwise (· < ·) := foldl_ins_asc l List.Pairwise.nil
theorem asc_of {l m : List Nat} (h : m.Pairwise (· < ·)) (hm : ∀ a, a ∈ m ↔ a ∈ l) : m = asc l := pw_ext h (asc_pw l) fun a => (hm a).trans asc_mem.symm
theorem asc_eq {l m : List Nat} (hm : ∀ a, a ∈ m ↔ a ∈ l) : asc m = asc l := asc_of (asc_pw m) fun a => asc_mem.trans (hm a)
theorem asc_snoc (l : List Nat) (x : Nat) : asc (l ++ [x]) = insOf (asc l) x := by simp [asc]
theorem asc_len (l : List Nat) : (asc l).length ≤ l.length := by
  have := foldl_ins_len l []
  simpa [asc] using this
theorem asc_nil : asc [] = [] := rfl
theorem asc_self {l : List Nat} (h : l.Pairwise (· < ·)) : asc l = l := (asc_of h fun _ => Iff.rfl).symm
theorem pw_nodup {l : List Nat} (h : l.Pairwise (· < ·)) : l.Nodup := h.imp fun h => by omega
theorem asc_lt {l : List Nat} {n : Nat} (h : ∀ x ∈ l, x < n) : ∀ x ∈ asc l, x < n := fun x hx => h x (asc_mem.1 hx)

/-- A list without duplicates inside another. -/
theorem nodup_sub_len : ∀ {L E : List Nat}, L.Nodup → (∀ x ∈ L, x ∈ E) → L.length ≤ E.length
  | [], E, _, _ => by simp
  | y :: L, E, h, hs => by
    rw [List.nodup_cons] at h
    have hy : y ∈ E := hs y (by simp)
    have h1 := nodup_sub_len (L := L) (E := E.erase y) h.2 fun x hx => (List.mem_erase_of_ne (fun e => h.1 (by rw [← e]; exact hx))).2 (hs x (by simp [hx]))
    rw [List.length_erase_of_mem hy] at h1
    have := List.length_pos_of_mem hy
    rw [List.length_cons]
    omega
theorem nodup_sub_all {L E : List Nat} (h : L.Nodup) (hs : ∀ x ∈ L, x ∈ E) (hl : E.length ≤ L.length) : ∀ x ∈ E, x ∈ L := by
  intro x hx
  apply Classical.byContradiction
  intro hn
  have := nodup_sub_len (L := x :: L) (E := E) (List.nodup_cons.2 ⟨hn, h⟩) (fun y hy => by
    rcases List.mem_cons.1 hy with rfl | hy
    · exact hx
    · exact hs y hy)
  rw [List.length_cons] at this
  omega
end Go.Proofs.YtnlmhnbogleijaaGreatDoor

namespace Go.Proofs.YtnlmhnbogleijaaGreatDoor
open Go.RowKit Go.Deco
set_option linter.unusedVariables false

structure Fn18 where
  entry : Nat
  name : ByteArray
  blocks : List Nat
  calls : List Nat
  leaf : Bool

def fnd (l : List Fn18) (a : Nat) : Option Fn18 := l.find? fun f => f.entry == a
theorem fnd_entry {l : List Fn18} {a : Nat} {f : Fn18} (h : fnd l a = some f) : f.entry = a := by
  have := List.find?_some h
  simpa using this
theorem fnd_mem {l : List Fn18} {a : Nat} {f : Fn18} (h : fnd l a = some f) : f ∈ l := List.mem_of_find?_eq_some h
theorem fnd_is {l : List Fn18} {a : Nat} : (fnd l a).isSome = true ↔ a ∈ l.map (·.entry) := by
  rw [fnd, List.find?_isSome]
  simp
theorem fnd_some {l : List Fn18} {a : Nat} (h : (fnd l a).isSome = true) : ∃ f, fnd l a = some f := Option.isSome_iff_exists.1 h

def calleesOf (l : List Fn18) (a : Nat) : List Nat := match fnd l a with | none => [] | some f => asc (f.calls.filter fun c => (fnd l c).isSome)
def entriesOf (l : List Fn18) : List Nat := asc (l.map (·.entry))
def callersOf (l : List Fn18) (a : Nat) : List Nat := if (fnd l a).isSome then asc ((entriesOf l).filter fun e => (calleesOf l e).contains a) else []
theorem callees_mem {l : List Fn18} {a c : Nat} : c ∈ calleesOf l a ↔ ∃ f, fnd l a = some f ∧ c ∈ f.calls ∧ (fnd l c).isSome = true := by
  unfold calleesOf
  cases h : fnd l a with
  | none => simp
  | some f =>
    simp only [asc_mem, List.mem_filter]
    constructor
    · rintro ⟨h1, h2⟩
      exact ⟨f, rfl, h1, h2⟩
    · rintro ⟨f', h0, h1, h2⟩
      cases h0
      exact ⟨h1, h2⟩
theorem entries_mem {l : List Fn18} {a : Nat} : a ∈ entriesOf l ↔ (fnd l a).isSome = true := by rw [entriesOf, asc_mem, fnd_is]
theorem callees_pw (l : List Fn18) (a : Nat) : (calleesOf l a).Pairwise (· < ·) := by
  unfold calleesOf
  split
  · exact List.Pairwise.nil
  · exact asc_pw _
theorem callees_entry {l : List Fn18} {a c : Nat} (h : c ∈ calleesOf l a) : c ∈ entriesOf l := by
  obtain ⟨f, _, _, h⟩ := callees_mem.1 h
  exact entries_mem.2 h
theorem callees_from {l : List Fn18} {a c : Nat} (h : c ∈ calleesOf l a) : a ∈ entriesOf l := by
  obtain ⟨f, h, _, _⟩ := callees_mem.1 h
  exact entries_mem.2 (by rw [h]; rfl)
theorem callers_mem {l : List Fn18} {a e : Nat} : e ∈ callersOf l a ↔ a ∈ calleesOf l e := by
  unfold callersOf
  split
  · rw [asc_mem, List.mem_filter]
    constructor
    · rintro ⟨_, h⟩
      simpa using h
    · intro h
      exact ⟨callees_from h, by simpa using h⟩
  · rename_i hn
    constructor
    · intro h
      cases h
    · intro h
      exact absurd (entries_mem.1 (callees_entry h)) hn
theorem callers_pw (l : List Fn18) (a : Nat) : (callersOf l a).Pairwise (· < ·) := by
  unfold callersOf
  split
  · exact asc_pw _
  · exact List.Pairwise.nil

/-! ### the program's own ways -/
def first1 (out : List Fn18) (f : Fn18) : List Fn18 := if (fnd out f.entry).isSome then out else out ++ [f]
def firsts (l : List Fn18) : List Fn18 := l.foldl first1 []
theorem fnd_snoc (l : List Fn18) (f : Fn18) (a : Nat) : fnd (l ++ [f]) a = (fnd l a).or (if f.entry = a then some f else none) := by
  rw [fnd, List.find?_append]
  congr 1
  by_cases h : f.entry = a <;> simp [h]
theorem fnd_first1 (out : List Fn18) (f : Fn18) (a : Nat) : fnd (first1 out f) a = (fnd out a).or (if f.entry = a then some f else none) := by
  unfold first1
  split
  · rename_i h
    by_cases e : f.entry = a
    · subst e
      obtain ⟨g, hg⟩ := fnd_some h
      rw [hg]
      rfl
    · rw [if_neg e]
      cases fnd out a <;> rfl
  · exact fnd_snoc out f a
theorem fnd_foldl : ∀ (l acc : List Fn18) (a : Nat), fnd (l.foldl first1 acc) a = (fnd acc a).or (fnd l a)
  | [], acc, a => by simp [fnd]
  | f :: l, acc, a => by
    rw [List.foldl_cons, fnd_foldl l, fnd_first1]
    cases fnd acc a with
    | some g => rfl
    | none =>
      by_cases e : f.entry = a <;> simp [fnd, e]
theorem fnd_firsts (l : List Fn18) (a : Nat) : fnd (firsts l) a = fnd l a := by
  rw [firsts, fnd_foldl]
  rfl
theorem first1_nodup {out : List Fn18} (h : (out.map (·.entry)).Nodup) (f : Fn18) : ((first1 out f).map (·.entry)).Nodup := by
  unfold first1
  split
  · exact h
  · rename_i hn
    rw [List.map_append, List.nodup_append]
    refine ⟨h, by simp, fun a ha b hb e => ?_⟩
    simp at hb
    subst hb
    subst e
    exact hn (fnd_is.2 ha)
theorem foldl_nodup : ∀ (l : List Fn18) {acc : List Fn18}, (acc.map (·.entry)).Nodup → ((l.foldl first1 acc).map (·.entry)).Nodup
  | [], _, h => h
  | f :: l, _, h => foldl_nodup l (first1_nodup h f)
theorem firsts_nodup (l : List Fn18) : ((firsts l).map (·.entry)).Nodup := foldl_nodup l (by simp)
theorem fnd_nodup : ∀ {l : List Fn18} {f : Fn18}, (l.map (·.entry)).Nodup → f ∈ l → fnd l f.entry = some f
  | [], f, _, h => by simp at h
  | g :: l, f, hn, h => by
    rw [List.map_cons, List.nodup_cons] at hn
    rcases List.mem_cons.1 h with rfl | h
    · simp [fnd]
    · have hne : g.entry ≠ f.entry := fun e => hn.1 (e ▸ List.mem_map.2 ⟨f, h, rfl⟩)
      have := fnd_nodup hn.2 h
      simpa [fnd, hne] using this
theorem firsts_mem {l : List Fn18} {f : Fn18} : f ∈ firsts l ↔ fnd l f.entry = some f := by
  rw [← fnd_firsts]
  exact ⟨fun h => fnd_nodup (firsts_nodup l) h, fun h => fnd_mem h⟩
theorem firsts_len (l : List Fn18) : (firsts l).length ≤ l.length := by
  have h : ∀ (l acc : List Fn18), (l.foldl first1 acc).length ≤ acc.length + l.length := by
    intro l
    induction l with
    | nil => intro acc; simp
    | cons f l ih =>
      intro acc
      have := ih (first1 acc f)
      have h2 : (first1 acc f).length ≤ acc.length + 1 := by
        unfold first1
        split <;> simp
      rw [List.foldl_cons, List.length_cons]
      omega
  simpa [firsts] using h l []
theorem firsts_sub {l : List Fn18} {f : Fn18} (h : f ∈ firsts l) : f ∈ l := fnd_mem (firsts_mem.1 h)
theorem firsts_entries {l : List Fn18} : asc ((firsts l).map (·.entry)) = entriesOf l := asc_eq fun a => by
  rw [← fnd_is, ← fnd_is, fnd_firsts]
theorem program_callees (l : List Fn18) (f : Fn18) {a : Nat} (h : fnd l a = some f) : (asc f.calls).filter (fun c => (fnd l c).isSome) = calleesOf l a := by
  unfold calleesOf
  rw [h]
  exact asc_of ((asc_pw _).filter _) fun c => by simp [List.mem_filter, asc_mem]
theorem program_callers {l : List Fn18} {a : Nat} (h : (fnd l a).isSome = true) : asc (((firsts l).filter fun f => f.calls.contains a).map (·.entry)) = callersOf l a := by
  unfold callersOf
  rw [if_pos h]
  refine asc_eq fun e => ?_
  simp only [List.mem_map, List.mem_filter, List.contains_iff_mem, firsts_mem, entries_mem, callees_mem]
  constructor
  · rintro ⟨f, ⟨h1, h2⟩, rfl⟩
    exact ⟨by rw [h1]; rfl, f, h1, h2, h⟩
  · rintro ⟨_, f, h1, h2, _⟩
    have := fnd_entry h1
    subst this
    exact ⟨f, ⟨h1, h2⟩, rfl⟩

/-! ### what a function leads to -/
inductive Reach (l : List Fn18) : Nat → Nat → Prop
  | refl (a : Nat) : Reach l a a
  | step {a b c : Nat} : Reach l a b → c ∈ calleesOf l b → Reach l a c
theorem Reach.trans {l : List Fn18} {a b c : Nat} (h : Reach l a b) (k : Reach l b c) : Reach l a c := by
  induction k with
  | refl => exact h
  | step _ hc ih => exact .step ih hc
theorem Reach.closed {l : List Fn18} {a b : Nat} {S : Nat → Prop} (h : Reach l a b) (ha : S a) (hc : ∀ x, S x → ∀ c ∈ calleesOf l x, S c) : S b := by
  induction h with
  | refl => exact ha
  | step _ h1 ih => exact hc _ ih _ h1
theorem Reach.entry {l : List Fn18} {a b : Nat} (h : Reach l a b) (ha : a ∈ entriesOf l) : b ∈ entriesOf l := h.closed (S := fun x => x ∈ entriesOf l) ha fun _ _ _ h => callees_entry h

/-! ### the components in order -/
section
variable (E : List Nat) (B : Nat → Nat → Bool)
def compOf (a : Nat) : List Nat := E.filter fun b => B a b && B b a
def listedB (out : List (List Nat)) (a : Nat) : Bool := out.any fun c => c.contains a
def readyB (out : List (List Nat)) (a : Nat) : Bool := E.all fun b => (B a b && B b a) || !(B a b) || listedB out b
def stepO (out : List (List Nat)) : Option Nat := E.find? fun a => !listedB out a && readyB E B out a
def orderN : Nat → List (List Nat) → List (List Nat)
  | 0, out => out
  | n + 1, out => match stepO E B out with
    | none => orderN n out
    | some a => orderN n (out ++ [compOf E B a])
def orderOf : List (List Nat) := orderN E B E.length []
end

/-- The graph's facts that the order leans on. -/
structure Pre (E : List Nat) (B : Nat → Nat → Bool) : Prop where
  nodup : E.Nodup
  refl : ∀ a, B a a = true
  trans : ∀ a b c, B a b = true → B b c = true → B a c = true

structure OrdG (E : List Nat) (B : Nat → Nat → Bool) (o : List (List Nat)) : Prop where
  comp : ∀ c ∈ o, ∃ a ∈ E, c = compOf E B a
  down : ∀ (i : Nat) (c : List Nat) (x y : Nat), o[i]? = some c → x ∈ c → y ∈ E → B x y = true → ∃ (j : Nat) (c' : List Nat), j ≤ i ∧ o[j]? = some c' ∧ y ∈ c'
  apart : ∀ (i j : Nat) (c d : List Nat) (x : Nat), o[i]? = some c → o[j]? = some d → x ∈ c → x ∈ d → i = j

section
variable {E : List Nat} {B : Nat → Nat → Bool} {o : List (List Nat)}
theorem listed_iff {a : Nat} : listedB o a = true ↔ ∃ (i : Nat) (c : List Nat), o[i]? = some c ∧ a ∈ c := by
  unfold listedB
  rw [List.any_eq_true]
  constructor
  · rintro ⟨c, h1, h2⟩
    obtain ⟨i, hi, rfl⟩ := List.getElem_of_mem h1
    exact ⟨i, _, List.getElem?_eq_getElem hi, by simpa using h2⟩
  · rintro ⟨i, c, h1, h2⟩
    exact ⟨c, List.mem_of_getElem? h1, by simpa using h2⟩
theorem listed_snoc {c : List Nat} {a : Nat} : listedB (o ++ [c]) a = (listedB o a || c.contains a) := by simp [listedB]
theorem comp_mem {a b : Nat} : b ∈ compOf E B a ↔ b ∈ E ∧ B a b = true ∧ B b a = true := by simp [compOf]
theorem OrdG.nil : OrdG E B [] := ⟨by simp, by simp, by simp⟩
theorem ready_iff {a : Nat} : readyB E B o a = true ↔ ∀ b ∈ E, B a b = true → B b a = true ∨ listedB o b = true := by
  unfold readyB
  rw [List.all_eq_true]
  refine ⟨fun h b hb hab => ?_, fun h b hb => ?_⟩
  · have := h b hb
    simpa [hab] using this
  · cases hab : B a b with
    | false => simp
    | true => simpa using h b hb hab
theorem stepO_some {a : Nat} (h : stepO E B o = some a) : a ∈ E ∧ listedB o a = false ∧ readyB E B o a = true := by
  have h1 := List.find?_some h
  simp at h1
  exact ⟨List.mem_of_find?_eq_some h, h1.1, h1.2⟩
theorem OrdG.closed (h : OrdG E B o) {x y : Nat} (hx : listedB o x = true) (hy : y ∈ E) (hb : B x y = true) : listedB o y = true := by
  obtain ⟨i, c, h1, h2⟩ := listed_iff.1 hx
  obtain ⟨j, c', _, h3, h4⟩ := h.down i c x y h1 h2 hy hb
  exact listed_iff.2 ⟨j, c', h3, h4⟩
theorem OrdG.snoc (P : Pre E B) (h : OrdG E B o) {a : Nat} (hs : stepO E B o = some a) : OrdG E B (o ++ [compOf E B a]) := by
  obtain ⟨ha, hl, hr⟩ := stepO_some hs
  have hr := ready_iff.1 hr
  have off : ∀ x, x ∈ compOf E B a → listedB o x = false := by
    intro x hx
    obtain ⟨hx, h1, h2⟩ := comp_mem.1 hx
    cases hlx : listedB o x with
    | false => rfl
    | true => rw [h.closed hlx ha h2] at hl; cases hl
  have at_ : ∀ i c, (o ++ [compOf E B a])[i]? = some c → o[i]? = some c ∧ i < o.length ∨ i = o.length ∧ c = compOf E B a := by
    intro i c hc
    by_cases hi : i < o.length
    · rw [List.getElem?_append_left hi] at hc
      exact .inl ⟨hc, hi⟩
    · rw [List.getElem?_append_right (by omega)] at hc
      have := (List.getElem?_eq_some_iff.1 hc).1
      simp at this
      have hi' : i = o.length := by omega
      subst hi'
      simp at hc
      exact .inr ⟨rfl, hc.symm⟩
  refine ⟨fun c hc => ?_, fun i c x y hc hx hy hb => ?_, fun i j c d x hc hd hxc hxd => ?_⟩
  · rw [List.mem_append] at hc
    rcases hc with hc | hc
    · exact h.comp c hc
    · simp at hc
      exact ⟨a, ha, hc⟩
  · rcases at_ i c hc with ⟨hc, hi⟩ | ⟨rfl, rfl⟩
    · obtain ⟨j, c', h1, h2, h3⟩ := h.down i c x y hc hx hy hb
      exact ⟨j, c', h1, by rw [List.getElem?_append_left (by omega)]; exact h2, h3⟩
    · obtain ⟨hx, h1, h2⟩ := comp_mem.1 hx
      have hay := P.trans _ _ _ h1 hb
      rcases hr y hy hay with h3 | h3
      · exact ⟨o.length, _, Nat.le_refl _, by simp, comp_mem.2 ⟨hy, hay, h3⟩⟩
      · obtain ⟨j, c', h4, h5⟩ := listed_iff.1 h3
        have := (List.getElem?_eq_some_iff.1 h4).1
        exact ⟨j, c', by omega, by rw [List.getElem?_append_left this]; exact h4, h5⟩
  · rcases at_ i c hc with ⟨hc, hi⟩ | ⟨rfl, rfl⟩ <;> rcases at_ j d hd with ⟨hd, hj⟩ | ⟨rfl, rfl⟩
    · exact h.apart i j c d x hc hd hxc hxd
    · have := off x hxd
      rw [listed_iff.2 ⟨i, c, hc, hxc⟩] at this
      cases this
    · have := off x hxc
      rw [listed_iff.2 ⟨j, d, hd, hxd⟩] at this
      cases this
    · rfl
theorem filter_lt {p q : Nat → Bool} : ∀ {E : List Nat} {a : Nat}, (∀ x ∈ E, p x = true → q x = true) → a ∈ E → q a = true → p a = false → (E.filter p).length < (E.filter q).length
  | [], a, _, h, _, _ => by simp at h
  | x :: E, a, hs, ha, hq, hp => by
    have hle : ∀ E : List Nat, (∀ x ∈ E, p x = true → q x = true) → (E.filter p).length ≤ (E.filter q).length := by
      intro E
      induction E with
      | nil => simp
      | cons y E ih =>
        intro h
        have := ih fun z hz => h z (by simp [hz])
        have hy := h y (by simp)
        cases hpy : p y <;> cases hqy : q y <;> simp_all <;> omega
    rcases List.mem_cons.1 ha with rfl | ha
    · have := hle E fun z hz => hs z (by simp [hz])
      simp [hp, hq]
      omega
    · have := filter_lt (E := E) (fun z hz => hs z (by simp [hz])) ha hq hp
      have hx := hs x (by simp)
      cases hpx : p x <;> cases hqx : q x <;> simp_all <;> omega
/-- Where something is not listed, something is ready. -/
theorem step_is (P : Pre E B) : ∀ (n a : Nat), a ∈ E → listedB o a = false → (E.filter (B a)).length ≤ n → ∃ b, stepO E B o = some b
  | n, a, ha, hl, hn => by
    cases hr : readyB E B o a with
    | true =>
      have : (stepO E B o).isSome = true := List.find?_isSome.2 ⟨a, ha, by simp [hl, hr]⟩
      exact Option.isSome_iff_exists.1 this
    | false =>
      have hnot : ¬ ∀ b ∈ E, B a b = true → B b a = true ∨ listedB o b = true := fun h => by rw [ready_iff.2 h] at hr; cases hr
      have : ∃ b ∈ E, B a b = true ∧ B b a = false ∧ listedB o b = false := by
        apply Classical.byContradiction
        intro hno
        refine hnot fun b hb hab => ?_
        cases h1 : B b a with
        | true => exact .inl rfl
        | false =>
          cases h2 : listedB o b with
          | true => exact .inr rfl
          | false => exact absurd ⟨b, hb, hab, h1, h2⟩ hno
      obtain ⟨b, hb, hab, hba, hlb⟩ := this
      have hlt := filter_lt (E := E) (p := B b) (q := B a) (fun x _ hx => P.trans _ _ _ hab hx) ha (P.refl a) hba
      cases n with
      | zero => omega
      | succ n => exact step_is P n b hb hlb (by omega)
theorem step_none (P : Pre E B) (h : stepO E B o = none) : ∀ a ∈ E, listedB o a = true := by
  intro a ha
  cases hl : listedB o a with
  | true => rfl
  | false =>
    obtain ⟨b, hb⟩ := step_is P _ a ha hl (Nat.le_refl _)
    rw [hb] at h
    cases h
theorem step_all (h : ∀ a ∈ E, listedB o a = true) : stepO E B o = none := by
  rw [stepO, List.find?_eq_none]
  intro a ha
  simp [h a ha]
theorem OrdG.flat (P : Pre E B) (h : OrdG E B o) : o.flatten.Nodup ∧ ∀ x ∈ o.flatten, x ∈ E := by
  refine ⟨List.pairwise_flatten.2 ⟨fun c hc => ?_, ?_⟩, fun x hx => ?_⟩
  · obtain ⟨a, _, rfl⟩ := h.comp c hc
    exact P.nodup.filter _
  · rw [List.pairwise_iff_getElem]
    intro i j hi hj hij x hx y hy e
    subst e
    have := h.apart i j _ _ x (List.getElem?_eq_getElem hi) (List.getElem?_eq_getElem hj) hx hy
    omega
  · obtain ⟨c, hc, hx⟩ := List.mem_flatten.1 hx
    obtain ⟨a, _, rfl⟩ := h.comp c hc
    exact (comp_mem.1 hx).1
theorem flat_listed {a : Nat} : a ∈ o.flatten ↔ listedB o a = true := by
  rw [List.mem_flatten, listed_iff]
  constructor
  · rintro ⟨c, h1, h2⟩
    obtain ⟨i, hi, rfl⟩ := List.getElem_of_mem h1
    exact ⟨i, _, List.getElem?_eq_getElem hi, h2⟩
  · rintro ⟨i, c, h1, h2⟩
    exact ⟨c, List.mem_of_getElem? h1, h2⟩
theorem OrdG.full (P : Pre E B) (h : OrdG E B o) (hl : E.length ≤ o.flatten.length) : ∀ a ∈ E, listedB o a = true := fun a ha => flat_listed.1 (nodup_sub_all (h.flat P).1 (h.flat P).2 hl a ha)
theorem OrdG.more (P : Pre E B) (h : OrdG E B o) (hl : o.flatten.length < E.length) : ∃ a, stepO E B o = some a := by
  cases hs : stepO E B o with
  | some a => exact ⟨a, rfl⟩
  | none =>
    have := nodup_sub_len (L := E) (E := o.flatten) P.nodup fun a ha => flat_listed.2 (step_none P hs a ha)
    omega
theorem OrdG.grow (h : OrdG E B o) (P : Pre E B) {a : Nat} (hs : stepO E B o = some a) : o.flatten.length < (o ++ [compOf E B a]).flatten.length := by
  have := List.length_pos_of_mem (comp_mem.2 ⟨(stepO_some hs).1, P.refl a, P.refl a⟩ : a ∈ compOf E B a)
  simp
  omega
theorem orderN_done (h : stepO E B o = none) : ∀ n, orderN E B n o = o
  | 0 => rfl
  | n + 1 => by rw [orderN, h]; exact orderN_done h n
theorem orderN_some {a n : Nat} (h : stepO E B o = some a) : orderN E B (n + 1) o = orderN E B n (o ++ [compOf E B a]) := by rw [orderN, h]
theorem orderN_none {n : Nat} (h : stepO E B o = none) : orderN E B (n + 1) o = orderN E B n o := by rw [orderN, h]
theorem orderN_ord (P : Pre E B) : ∀ (n : Nat) (o : List (List Nat)), OrdG E B o → E.length ≤ o.flatten.length + n → OrdG E B (orderN E B n o) ∧ ∀ a ∈ E, listedB (orderN E B n o) a = true
  | 0, o, h, hl => ⟨h, h.full P hl⟩
  | n + 1, o, h, hl => by
    cases hs : stepO E B o with
    | none =>
      rw [orderN_done hs]
      exact ⟨h, step_none P hs⟩
    | some a =>
      rw [orderN_some hs]
      have := h.grow P hs
      exact orderN_ord P n _ (h.snoc P hs) (by omega)
theorem orderOf_ord (P : Pre E B) : OrdG E B (orderOf E B) ∧ ∀ a ∈ E, listedB (orderOf E B) a = true := orderN_ord P _ _ OrdG.nil (by simp)
theorem orderOf_len (P : Pre E B) : (orderOf E B).flatten.length = E.length := by
  obtain ⟨h1, h2⟩ := orderOf_ord P
  have h3 := nodup_sub_len (h1.flat P).1 (h1.flat P).2
  have h4 := nodup_sub_len (L := E) (E := (orderOf E B).flatten) P.nodup fun a ha => flat_listed.2 (h2 a ha)
  omega

/-- The place of the component that contains an entry. -/
def inOf (o : List (List Nat)) (a : Nat) : Option Nat := o.findIdx? fun c => c.contains a
theorem inOf_some {a i : Nat} (h : inOf o a = some i) : ∃ c, o[i]? = some c ∧ a ∈ c := by
  rw [inOf, List.findIdx?_eq_some_iff_getElem] at h
  obtain ⟨hi, h1, _⟩ := h
  exact ⟨_, List.getElem?_eq_getElem hi, by simpa using h1⟩
theorem inOf_is {a : Nat} (h : listedB o a = true) : ∃ i, inOf o a = some i := by
  cases hi : inOf o a with
  | some i => exact ⟨i, rfl⟩
  | none =>
    rw [inOf, List.findIdx?_eq_none_iff] at hi
    unfold listedB at h
    rw [List.any_eq_true] at h
    obtain ⟨c, h1, h2⟩ := h
    rw [hi c h1] at h2
    cases h2
theorem inOf_at (h : OrdG E B o) {a i : Nat} {c : List Nat} (hc : o[i]? = some c) (ha : a ∈ c) : inOf o a = some i := by
  obtain ⟨j, hj⟩ := inOf_is (listed_iff.2 ⟨i, c, hc, ha⟩)
  obtain ⟨d, hd, had⟩ := inOf_some hj
  rw [hj, h.apart i j c d a hc hd ha had]
/-- The stage's theorem: callees come first; one component just if they lead to each other. -/
theorem inOf_down (h : OrdG E B o) {a b i : Nat} (hi : inOf o a = some i) (hb : b ∈ E) (hab : B a b = true) : ∃ j, inOf o b = some j ∧ j ≤ i := by
  obtain ⟨c, hc, ha⟩ := inOf_some hi
  obtain ⟨j, c', h1, h2, h3⟩ := h.down i c a b hc ha hb hab
  exact ⟨j, inOf_at h h2 h3, h1⟩
theorem inOf_same (P : Pre E B) (h : OrdG E B o) {a b i : Nat} (hi : inOf o a = some i) (hb : b ∈ E) : inOf o b = some i ↔ (B a b && B b a) = true := by
  obtain ⟨c, hc, ha⟩ := inOf_some hi
  obtain ⟨x, hx, rfl⟩ := h.comp c (List.mem_of_getElem? hc)
  obtain ⟨_, h1, h2⟩ := comp_mem.1 ha
  constructor
  · intro hj
    obtain ⟨d, hd, hbd⟩ := inOf_some hj
    rw [hc] at hd
    cases hd
    obtain ⟨_, h3, h4⟩ := comp_mem.1 hbd
    rw [P.trans _ _ _ h2 h3, P.trans _ _ _ h4 h1]
    rfl
  · intro hm
    simp at hm
    exact inOf_at h hc (comp_mem.2 ⟨hb, P.trans _ _ _ h1 hm.1, P.trans _ _ _ hm.2 h2⟩)
end

/-- The program's graph meets what the order leans on. -/
theorem pre_reach (l : List Fn18) (B : Nat → Nat → Bool) (hB : ∀ a b, B a b = true ↔ Reach l a b) : Pre (entriesOf l) B :=
  ⟨pw_nodup (asc_pw _), fun a => (hB a a).2 (.refl a), fun a b c h1 h2 => (hB a c).2 (((hB a b).1 h1).trans ((hB b c).1 h2))⟩
/-- The reference's test of a component is the program's. -/
theorem ready_ref (l : List Fn18) (B : Nat → Nat → Bool) (hB : ∀ a b, B a b = true ↔ Reach l a b) {o : List (List Nat)} (h : OrdG (entriesOf l) B o) {a : Nat} (ha : a ∈ entriesOf l) :
    readyB (entriesOf l) B o a = (compOf (entriesOf l) B a).all fun x => (calleesOf l x).all fun y => (compOf (entriesOf l) B a).contains y || listedB o y := by
  have P := pre_reach l B hB
  rw [Bool.eq_iff_iff, ready_iff, List.all_eq_true]
  simp only [List.all_eq_true, Bool.or_eq_true, List.contains_iff_mem]
  constructor
  · intro hr x hx y hy
    obtain ⟨_, h1, h2⟩ := comp_mem.1 hx
    have hye := callees_entry hy
    have hay : B a y = true := (hB a y).2 (((hB a x).1 h1).step hy)
    rcases hr y hye hay with h3 | h3
    · exact .inl (comp_mem.2 ⟨hye, hay, h3⟩)
    · exact .inr h3
  · intro hr b hb hab
    have : b ∈ compOf (entriesOf l) B a ∨ listedB o b = true := by
      refine ((hB a b).1 hab).closed (S := fun z => z ∈ compOf (entriesOf l) B a ∨ listedB o z = true) (.inl (comp_mem.2 ⟨ha, P.refl a, P.refl a⟩)) fun x hx c hc => ?_
      rcases hx with hx | hx
      · exact hr x hx c hc
      · exact .inr (h.closed hx (callees_entry hc) ((hB x c).2 (Reach.step (.refl x) hc)))
    rcases this with h1 | h1
    · exact .inl (comp_mem.1 h1).2.2
    · exact .inr h1
end Go.Proofs.YtnlmhnbogleijaaGreatDoor
