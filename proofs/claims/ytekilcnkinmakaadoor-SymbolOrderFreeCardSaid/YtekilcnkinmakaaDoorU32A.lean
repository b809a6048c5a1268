/- slices.Clone, Compact, IndexFunc, Index, Contains, DeleteFunc at []uint32. -/
import Derived.Test.YtekilcnkinmakaaDoorSrtH
import Derived.Test.YtekilcnkinmakaaDoorAsc
import Derived.Lib.SliceRun
import Derived.Deep.QuietTactic
import Derived.BigQuiet
namespace Go.Proofs.YtekilcnkinmakaaDoor
open Go.RowKit Go.Deco
set_option linter.unusedSimpArgs false
set_option linter.unusedVariables false

/-! ### words on owned rows of numbers -/
theorem own_take {kd : IntKind} {bd base n c k : Nat} {A : Option Addr} {w : World} {T : Nat → Prop} {e : TypeId} {R : List Nat} (h : OwnS (numR kd bd) w base e T (.slice A n c) R) (hk : k ≤ n) (h0 : 0 < n) :
    OwnS (numR kd bd) w base e T (.slice A k c) (R.take k) := by
  have hn := h.len
  obtain ⟨xs, ho, hc⟩ := h
  obtain ⟨rfl, hb⟩ := chunks_num.1 hc
  have hkl : (R.take k).length = k := by rw [List.length_take]; omega
  refine ⟨(R.take k).map (fun x : Nat => Value.int kd x), ?_, chunks_num.2 ⟨rfl, fun x hx => hb x (List.mem_of_mem_take hx)⟩⟩
  obtain ⟨h1, h2⟩ := ho
  rcases h2 with ⟨hv, hl⟩ | ⟨g, cap, cur, hv, hg, hb1, h3, h4, h5, h6⟩
  · omega
  · cases hv
    refine ⟨by simp [numR], .inr ⟨g, _, cur, by rw [hkl], hg, hb1, by rw [hkl]; omega, h4, h5, ?_⟩⟩
    have e1 : (numR kd bd).size = 1 := rfl
    rw [e1, Nat.mul_one] at h6 ⊢
    rw [hkl, List.map_take, ← h6, List.take_take, ← hn, Nat.min_eq_left hk]
theorem own_clear {kd : IntKind} {bd base n c g : Nat} {T : Nat → Prop} {e : TypeId} (hbd : 0 < bd) : ∀ (m k : Nat) {w : World} {R : List Nat}, OwnS (numR kd bd) w base e T (.slice (some ⟨g, 0, none⟩) n c) R →
    ∃ R', OwnS (numR kd bd) (w.setCells g k (List.replicate m (.int kd 0))) base e T (.slice (some ⟨g, 0, none⟩) n c) R' ∧ R'.take k = R.take k
  | 0, k, w, R, h => ⟨R, by simpa [World.setCells] using h, rfl⟩
  | m + 1, k, w, R, h => by
    have h1 := h.num_set (x := 0) hbd k
    obtain ⟨R', h2, h3⟩ := own_clear hbd m (k + 1) h1
    refine ⟨R', by simpa [World.setCells, List.replicate_succ] using h2, ?_⟩
    have h4 := congrArg (List.take k) h3
    rw [List.take_take, List.take_take, Nat.min_eq_left (by omega)] at h4
    rw [h4]
    apply List.ext_getElem?
    intro j
    by_cases hj : j < k
    · rw [List.getElem?_take_of_lt hj, List.getElem?_take_of_lt hj, List.getElem?_set_ne (by omega)]
    · rw [List.getElem?_take_eq_none (by omega), List.getElem?_take_eq_none (by omega)]
theorem ext_setCells {w0 : World} {g : Nat} (hg : w0.heap.size ≤ g) : ∀ (vs : List Value) (k : Nat) {w : World}, Ext w0 w → Ext w0 (w.setCells g k vs)
  | [], k, w, h => by simpa [World.setCells] using h
  | v :: vs, k, w, h => by simpa [World.setCells] using ext_setCells hg vs (k + 1) (h.setCell hg v)
theorem take_set_lt {R : List Nat} {k j x : Nat} (h : j ≤ k) : (R.set k x).take j = R.take j := by
  apply List.ext_getElem?
  intro i
  by_cases hi : i < j
  · rw [List.getElem?_take_of_lt hi, List.getElem?_take_of_lt hi, List.getElem?_set_ne (by omega)]
  · rw [List.getElem?_take_eq_none (by omega), List.getElem?_take_eq_none (by omega)]
theorem take_set_snoc {R : List Nat} {k x : Nat} (h : k < R.length) : (R.set k x).take (k + 1) = R.take k ++ [x] := by
  rw [take_snoc' (show (R.set k x)[k]? = some x by rw [List.getElem?_set_self h]), take_set_lt (Nat.le_refl _)]
theorem zero_u32 : ∀ w, (zeroValue 23).run Tryd.prog w = .ok (.int .u32 0) w := fun w => by kernel_rfl
theorem clear_run {w : World} {g n c k base : Nat} {T : Nat → Prop} {R : List Nat} (h : OwnS u32R w base 23 T (.slice (some ⟨g, 0, none⟩) n c) R) (hk : k < n) (ty : TypeId) :
    (Builtin.clear_ #[38] ty #[.slice (some ⟨g, k, none⟩) (n - k) (c - k)]).run Tryd.prog w = .ok (.tuple #[]) (w.setCells g k (List.replicate (n - k) (.int .u32 0))) := by
  have hn := h.len
  refine Lib.run_clear_slice w 38 23 ty (.int .u32 0) Tryd.underlying38 zero_u32 rfl rfl g k (n - k) (c - k) (by omega) (fun j hj => ?_) (fun j hj => ?_)
  · obtain ⟨x, hx⟩ : ∃ x, R[k + j]? = some x := ⟨_, List.getElem?_eq_getElem (by omega)⟩
    rw [(h.num_cell hx).1]
    rfl
  · obtain ⟨x, hx⟩ : ∃ x, R[k + j]? = some x := ⟨_, List.getElem?_eq_getElem (by omega)⟩
    exact (h.num_cell hx).2

/-- A list in a row of the call's own. -/
def RowPost (wo : World) (l : List Nat) (e : Ending) (w' : World) : Prop := Ext wo w' ∧ ∃ A c, e = .returned (.slice A l.length c) ∧ OwnS u32R w' wo.heap.size 23 All (.slice A l.length c) l

/-! ### Clone -/

/-! ### Compact -/
/-- The first m numbers without those that equal the one ahead of them. -/
def ddn (l : List Nat) : Nat → List Nat
  | 0 => []
  | m + 1 => match l[m]? with
    | none => ddn l m
    | some x => if 0 < m ∧ l[m - 1]? = some x then ddn l m else ddn l m ++ [x]
theorem ddn_same {l : List Nat} {m x : Nat} (h0 : 0 < m) (h1 : l[m]? = some x) (h2 : l[m - 1]? = some x) : ddn l (m + 1) = ddn l m := by rw [ddn, h1]; simp [h0, h2]
theorem ddn_new {l : List Nat} {m x y : Nat} (h1 : l[m]? = some x) (h2 : l[m - 1]? = some y) (hne : x ≠ y) : ddn l (m + 1) = ddn l m ++ [x] := by
  rw [ddn, h1]
  have : y ≠ x := fun e => hne e.symm
  simp [h2, this]
theorem ddn_one {l : List Nat} {x : Nat} (h1 : l[0]? = some x) : ddn l 1 = [x] := by rw [ddn, h1]; simp [ddn]
theorem insOf_in : ∀ {L : List Nat} {x : Nat}, L.Pairwise (· < ·) → x ∈ L → insOf L x = L
  | [], x, _, h => by simp at h
  | y :: r, x, hp, h => by
    rw [List.pairwise_cons] at hp
    rw [insOf]
    rcases List.mem_cons.1 h with rfl | h
    · simp
    · have := hp.1 x h
      rw [if_pos this, insOf_in hp.2 h]
theorem insOf_gt : ∀ {L : List Nat} {x : Nat}, (∀ y ∈ L, y < x) → insOf L x = L ++ [x]
  | [], x, _ => rfl
  | y :: r, x, h => by
    rw [insOf, if_pos (h y (by simp)), insOf_gt fun z hz => h z (by simp [hz])]
    rfl
theorem ddn_sorted {l : List Nat} (h : l.Pairwise (· ≤ ·)) : ∀ m, m ≤ l.length → ddn l m = asc (l.take m)
  | 0, _ => by simp [ddn, asc]
  | m + 1, hm => by
    have hx := List.getElem?_eq_getElem (show m < l.length by omega)
    rw [take_snoc' hx, asc_snoc, ← ddn_sorted h m (by omega)]
    have hle : ∀ y ∈ l.take m, y ≤ l[m] := by
      intro y hy
      obtain ⟨j, hj, rfl⟩ := List.getElem_of_mem hy
      simp at hj
      rw [List.getElem_take]
      exact (List.pairwise_iff_getElem.1 h) j m (by omega) (by omega) (by omega)
    rcases Nat.eq_zero_or_pos m with h0 | h0
    · subst h0
      rw [ddn_one hx]
      rfl
    · have hy := List.getElem?_eq_getElem (show m - 1 < l.length by omega)
      by_cases e : l[m] = l[m - 1]
      · rw [ddn_same h0 hx (by rw [hy, e]), insOf_in (by rw [ddn_sorted h m (by omega)]; exact asc_pw _)]
        rw [ddn_sorted h m (by omega), asc_mem, e]
        exact List.mem_of_getElem? (i := m - 1) (by rw [List.getElem?_take_of_lt (by omega)]; exact hy)
      · rw [ddn_new hx hy e, insOf_gt]
        intro y hy'
        rw [ddn_sorted h m (by omega), asc_mem] at hy'
        obtain ⟨j, hj, rfl⟩ := List.getElem_of_mem hy'
        simp at hj
        rw [List.getElem_take]
        have h1 : l[j] ≤ l[m - 1] := by
          rcases Nat.lt_or_ge j (m - 1) with h2 | h2
          · exact (List.pairwise_iff_getElem.1 h) j (m - 1) (by omega) (by omega) h2
          · have : j = m - 1 := by omega
            subst this
            exact Nat.le_refl _
        have h2 : l[m - 1] ≤ l[m] := (List.pairwise_iff_getElem.1 h) (m - 1) m (by omega) (by omega) (by omega)
        omega
theorem ddn_all {l : List Nat} : ∀ {m : Nat}, m ≤ l.length → (∀ j, 0 < j → j < m → l[j]? ≠ l[j - 1]?) → ddn l m = l.take m
  | 0, _, _ => by simp [ddn]
  | m + 1, hm, h => by
    have hx := List.getElem?_eq_getElem (show m < l.length by omega)
    rw [take_snoc' hx, ← ddn_all (m := m) (by omega) fun j h1 h2 => h j h1 (by omega), ddn, hx]
    by_cases h0 : 0 < m
    · have := h m h0 (by omega)
      rw [hx] at this
      have : ¬ l[m - 1]? = some l[m] := fun e => this e.symm
      simp [this]
    · simp [h0]
theorem ddn_len : ∀ (l : List Nat) (m : Nat), (ddn l m).length ≤ m
  | l, 0 => by simp [ddn]
  | l, m + 1 => by
    have := ddn_len l m
    rw [ddn]
    split
    · omega
    · split
      · omega
      · simp; omega

/-- What the row holds while Compact runs: the first k numbers are the distinct ones of the first m; from m - 1 on it is as it was. -/
structure Comp (l R : List Nat) (m k : Nat) : Prop where
  len : R.length = l.length
  low : R.take k = ddn l m
  kl : k = (ddn l m).length
  high : ∀ t, m - 1 ≤ t → R[t]? = l[t]?
  lt : k < m
theorem Comp.start {l : List Nat} {m x : Nat} (hm : m < l.length) (h0 : 0 < m) (hall : ∀ j, 0 < j → j < m → l[j]? ≠ l[j - 1]?) (h1 : l[m]? = some x) (h2 : l[m - 1]? = some x) : Comp l l (m + 1) m := by
  have e := ddn_all (l := l) (m := m) (by omega) hall
  refine ⟨rfl, by rw [ddn_same h0 h1 h2, e], ?_, fun _ _ => rfl, by omega⟩
  rw [ddn_same h0 h1 h2, e, List.length_take]
  omega
theorem Comp.skip {l R : List Nat} {m k x : Nat} (h : Comp l R m k) (h1 : l[m]? = some x) (h2 : l[m - 1]? = some x) : Comp l R (m + 1) k := by
  have e := ddn_same (by have := h.lt; omega) h1 h2
  exact ⟨h.len, by rw [e]; exact h.low, by rw [e]; exact h.kl, fun t ht => h.high t (by omega), by have := h.lt; omega⟩
theorem Comp.keep {l R : List Nat} {m k x y : Nat} (h : Comp l R m k) (hm : m < l.length) (h1 : l[m]? = some x) (h2 : l[m - 1]? = some y) (hne : x ≠ y) : Comp l (R.set k x) (m + 1) (k + 1) := by
  have e := ddn_new h1 h2 hne
  have hlt := h.lt
  refine ⟨by rw [List.length_set]; exact h.len, ?_, by rw [e, List.length_append, ← h.kl]; rfl, fun t ht => ?_, by omega⟩
  · rw [take_set_snoc (by rw [h.len]; omega), h.low, e]
  · rw [List.getElem?_set_ne (by omega)]
    exact h.high t (by omega)


set_option maxRecDepth 100000 in
set_option maxHeartbeats 2000000 in
theorem compact_any (wo w : World) (ho : Ext wo w) (A : Option Addr) (n c : Nat) (l : List Nat) (hown : OwnS u32R w wo.heap.size 23 All (.slice A n c) l) (hn : n ≤ 1000000) :
    Calls Tryd.prog 35 #[.slice A n c] w (RowPost wo (ddn l n)) := by
  have hln := hown.len
  obtain ⟨L, hL⟩ : ∃ L, ddn l n = L := ⟨_, rfl⟩
  rw [hL]
  have HLL := hid hL; clear hL
  have HO := hid hown
  have HX := hid ho; clear ho
  have HLN := hid hln; clear hln
  by_cases h2 : n < 2
  · clear hown
    go_enter Tryd.func35, Tryd.ntmps35
    go_wp2
    go_ret
    have e : ddn l n = l := by
      have := ddn_all (l := l) (m := n) (by have := HLN.out; omega) (fun j h3 h4 => by omega)
      rw [this, List.take_of_length_le (by have := HLN.out; omega)]
    rw [← HLL.out, e]
    have hh := HO.out
    rw [HLN.out] at hh ⊢
    exact ⟨HX.out, A, c, rfl, hh⟩
  · obtain ⟨g, rfl, hg1, hg2⟩ := hown.at0 (by omega)
    clear hown
    have hcap : n ≤ c ∧ c ≤ 9223372036854775807 := by
      obtain ⟨A', c', hv, h3, h4⟩ := HO.out.form
      cases hv
      have := HLN.out
      exact ⟨by omega, h4⟩
    have hnc := hcap.1
    have hcm := hcap.2
    clear hcap
    go_enter Tryd.func35, Tryd.ntmps35
    go_wp2
    go_loopw [3] (fun i wr => ∃ k : Nat, 1 ≤ k ∧ k ≤ n ∧ i = .int .i64 k ∧ Hid (Ext wo wr) ∧ Hid (OwnS u32R wr wo.heap.size 23 All (.slice (some ⟨g, 0, none⟩) n c) l) ∧ Hid (∀ j, 0 < j → j < k → l[j]? ≠ l[j - 1]?)) (fun i _ => n - (intOf i).toNat)
    case atStart => exact ⟨1, by omega, by omega, rfl, HX, HO, hid (fun j h3 h4 => by omega)⟩
    case round =>
      obtain ⟨k, hk0, hk, rfl, HX1, HO1, ha⟩ := hrel
      by_cases h1 : k < n
      · obtain ⟨x, hx⟩ : ∃ x, l[k]? = some x := ⟨_, List.getElem?_eq_getElem (by have := HLN.out; omega)⟩
        obtain ⟨y, hy⟩ : ∃ y, l[k - 1]? = some y := ⟨_, List.getElem?_eq_getElem (by have := HLN.out; omega)⟩
        obtain ⟨cx, fx⟩ := HO1.out.num_cell hx
        obtain ⟨cy, fy⟩ := HO1.out.num_cell hy
        have HXK := hid hx; clear hx
        have HYK := hid hy; clear hy
        have hkk : (k : Int) - 1 = ((k - 1 : Nat) : Int) := by omega
        by_cases hxy : x = y
        · subst hxy
          have hxx : ((x : Int) == (x : Int)) = true := by simp
          go_wp2_with fail
          go_quiet (fail)
          clear hxx cx cy fx fy
          have hck : ¬ c = k := by omega
          go_wp2
          clear hkk
          go_loopw [3, 5] (fun s3 s5 wi => ∃ (q j : Nat) (R : List Nat), s3 = .int .i64 q ∧ s5 = .int .i64 j ∧ 1 ≤ j ∧ k + j ≤ n ∧ Hid (Ext wo wi) ∧ Hid (OwnS u32R wi wo.heap.size 23 All (.slice (some ⟨g, 0, none⟩) n c) R) ∧ Hid (Comp l R (k + j) q)) (fun _ s5 _ => n - (intOf s5).toNat)
          case atStart => exact ⟨k, 1, l, rfl, rfl, Nat.le_refl _, by omega, hid (HX1.out.drewN _), hid (HO1.out.drN _), hid (Comp.start (by have := HLN.out; omega) hk0 ha.out HXK.out HYK.out)⟩
          case round =>
            clear HX1 HO1
            obtain ⟨q, j, R, rfl, rfl, hj, hjn, HX1, HO1, HC⟩ := hrel
            have hqlt : q < k + j := HC.out.lt
            by_cases h3 : k + j < n
            · have hjk : (j : Int) < ((n - k : Nat) : Int) := by omega
              obtain ⟨u, hu⟩ : ∃ u, l[k + j]? = some u := ⟨_, List.getElem?_eq_getElem (by have := HLN.out; omega)⟩
              obtain ⟨v, hv⟩ : ∃ v, l[k + j - 1]? = some v := ⟨_, List.getElem?_eq_getElem (by have := HLN.out; omega)⟩
              obtain ⟨z, hz⟩ : ∃ z, R[q]? = some z := ⟨_, List.getElem?_eq_getElem (by have := HLN.out; have := HC.out.len; omega)⟩
              obtain ⟨cu, fu⟩ := HO1.out.num_cell ((HC.out.high _ (by omega)).trans hu)
              obtain ⟨cv, fv⟩ := HO1.out.num_cell ((HC.out.high _ (by omega)).trans hv)
              obtain ⟨cz, fz⟩ := HO1.out.num_cell hz
              have hu32 : u < 4294967296 := HO1.out.num_lt u (List.mem_of_getElem? ((HC.out.high _ (by omega)).trans hu))
              rw [show k + j - 1 = k + (j - 1) by omega] at cv
              have HU := hid hu; clear hu
              have HV := hid hv; clear hv
              have hjj : (j : Int) - 1 = ((j - 1 : Nat) : Int) := by omega
              clear hz fu fv
              by_cases huv : u = v
              · subst huv
                have hxx : ((u : Int) != (u : Int)) = false := by simp
                go_wp2_with fail
                go_quiet (fail)
                clear hxx hjj cu cv cz
                go_wp2
                go_roundw
                case rel => exact ⟨q, j + 1, R, rfl, by go_num, by omega, by omega, hid (HX1.out.drewN _), hid (HO1.out.drN _), hid (HC.out.skip HU.out HV.out)⟩
                case measure => simp [intOf]; omega
              · have hxx : ((u : Int) != (v : Int)) = true := by simp; omega
                go_wp2_with fail
                go_quiet (fail)
                clear hxx hjj
                go_wp2
                go_roundw
                case rel => exact ⟨q + 1, j + 1, R.set q u, by go_num, by go_num, by omega, by omega, hid ((HX1.out.drewN _).setCell hg1 _), hid ((HO1.out.drN _).num_set hu32 q), hid (HC.out.keep (by have := HLN.out; omega) HU.out HV.out huv)⟩
                case measure => simp [intOf]; omega
            · have hjk : ¬ (j : Int) < ((n - k : Nat) : Int) := by omega
              have hkj : k + j = n := by omega
              have hcl := fun ty => clear_run HO1.out (k := q) (by omega) ty
              have hcq : ¬ c = q := by omega
              go_wp2
              go_ret
              obtain ⟨R', h5, h6⟩ := own_clear (kd := .u32) (bd := 4294967296) (by omega) (n - q) q HO1.out
              have h7 := own_take h5 (k := q) (by omega) (by omega)
              rw [h6, HC.out.low, hkj, HLL.out] at h7
              have h8 := HC.out.kl
              rw [hkj, HLL.out] at h8
              subst h8
              exact ⟨ext_setCells hg1 _ _ HX1.out, _, _, rfl, h7⟩
        · have hxx : ((x : Int) == (y : Int)) = false := by simp; omega
          go_wp2_with fail
          go_quiet (fail)
          go_wp2
          go_roundw
          case rel =>
            refine ⟨k + 1, by omega, by omega, by go_num, hid (HX1.out.drewN _), hid (HO1.out.drN _), hid fun j h3 h4 => ?_⟩
            · rcases Nat.lt_or_ge j k with h5 | h5
              · exact ha.out j h3 h5
              · obtain rfl : j = k := by omega
                rw [HXK.out, HYK.out]
                intro e
                injection e with e
                exact hxy e
          case measure => simp [intOf]; omega
      · obtain rfl : k = n := by omega
        go_wp2
        go_ret
        have e : ddn l k = l := by
          have := ddn_all (l := l) (m := k) (by have := HLN.out; omega) ha.out
          rw [this, List.take_of_length_le (by have := HLN.out; omega)]
        rw [← HLL.out, e]
        have hh := HO1.out
        rw [HLN.out] at hh ⊢
        exact ⟨HX1.out, some ⟨g, 0, none⟩, c, rfl, hh⟩
end Go.Proofs.YtekilcnkinmakaaDoor
