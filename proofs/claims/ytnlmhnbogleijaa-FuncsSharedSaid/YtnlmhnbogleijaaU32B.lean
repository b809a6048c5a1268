/- slices.IndexFunc, DeleteFunc, Index, Contains at []uint32. -/
import Derived.Test.YtnlmhnbogleijaaU32A
namespace Go.Proofs.Ytnlmhnbogleijaa
open Go.RowKit Go.Deco
set_option linter.unusedSimpArgs false
set_option linter.unusedVariables false

/-- What a predicate on numbers must meet: called with a number and what it has captured it gives 'p'. -/
def NumPred (g : FuncId) (cap : Value) (w : World) (p : Nat → Bool) : Prop :=
  ∀ (w' : World) (x : Nat), (∀ b, IsCells w b → w'.heap[b]? = w.heap[b]?) → w.heap.size ≤ w'.heap.size → x < 4294967296 →
    Calls Try.prog g #[.int .u32 x, cap] w' fun e w'' => e = .returned (.bool (p x)) ∧ Ext w' w''

def ixN (p : Nat → Bool) (l : List Nat) : Int := match l.findIdx? p with | some k => k | none => -1
theorem ixN_hit {p : Nat → Bool} {l : List Nat} {k e : Nat} (h : ∀ j, j < k → ∀ y, l[j]? = some y → p y = false) (hk : l[k]? = some e) (hp : p e = true) : ixN p l = k := by
  have : l.findIdx? p = some k := by
    rw [List.findIdx?_eq_some_iff_getElem]
    obtain ⟨hlt, rfl⟩ := List.getElem?_eq_some_iff.1 hk
    exact ⟨hlt, hp, fun j hj => by have := h j hj _ (List.getElem?_eq_getElem (by omega)); simp [this]⟩
  rw [ixN, this]
theorem ixN_miss {p : Nat → Bool} {l : List Nat} (h : ∀ j, j < l.length → ∀ y, l[j]? = some y → p y = false) : ixN p l = -1 := by
  have : l.findIdx? p = none := by
    rw [List.findIdx?_eq_none_iff]
    intro x hx
    obtain ⟨k, hk, rfl⟩ := List.getElem_of_mem hx
    exact h k hk _ (List.getElem?_eq_getElem hk)
  rw [ixN, this]
theorem ixN_cases (p : Nat → Bool) (l : List Nat) : (ixN p l = -1 ∧ ∀ x ∈ l, p x = false) ∨ ∃ (k : Nat) (x : Nat), ixN p l = k ∧ l[k]? = some x ∧ p x = true ∧ ∀ y ∈ l.take k, p y = false := by
  unfold ixN
  cases h : l.findIdx? p with
  | none =>
    rw [List.findIdx?_eq_none_iff] at h
    exact .inl ⟨rfl, h⟩
  | some k =>
    rw [List.findIdx?_eq_some_iff_getElem] at h
    obtain ⟨hlt, hp, hj⟩ := h
    refine .inr ⟨k, l[k], rfl, List.getElem?_eq_getElem hlt, hp, fun y hy => ?_⟩
    obtain ⟨j, hj', rfl⟩ := List.getElem_of_mem hy
    simp at hj'
    rw [List.getElem_take]
    have := hj j (by omega)
    simpa using this

set_option maxRecDepth 100000 in
set_option maxHeartbeats 400000 in
theorem index32f_any (g : FuncId) (cap : Value) (w : World) (p : Nat → Bool) (hp : NumPred g cap w p) (S : Nat → Prop) (A : Option Addr) (n c : Nat) (l : List Nat) (hl : Sl u32R w S (.slice A n c) l) (hn : n ≤ 1000000) (hg : ∀ args w, (callFunc g args).run Try.prog w = .ok (.enter g args) w) :
    Calls Try.prog 43 #[.slice A n c, .func (.func g) #[] #[cap]] w fun e w' => e = .returned (.int .i64 (ixN p l)) ∧ Ext w w' := by
  have hln := hl.len
  have HP := hid hp; clear hp
  have HS := hid hl; clear hl
  have HL := hid hln; clear hln
  go_enter Try.func43, Try.ntmps43
  go_wp2
  go_loopw [8] (fun i wr => ∃ k : Nat, k ≤ n ∧ i = .int .i64 k ∧ Hid (Ext w wr) ∧ Hid (∀ j, j < k → ∀ y, l[j]? = some y → p y = false)) (fun i _ => n - (intOf i).toNat)
  case atStart => exact ⟨0, by omega, rfl, hid (Ext.refl w), hid (by omega)⟩
  case round =>
    obtain ⟨k, hk, rfl, he, ha⟩ := hrel
    by_cases h1 : k < n
    · obtain ⟨s, hs⟩ : ∃ s, l[k]? = some s := ⟨_, List.getElem?_eq_getElem (by have := HL.out; omega)⟩
      obtain ⟨b, off, rfl, c0, hs32⟩ := HS.out.num_at hs
      have c0 := he.out.cell c0
      have HK := hid hs; clear hs
      go_wp2_with fail
      refine (HP.out _ s (fun b hb => he.out.block hb.lt) he.out.size hs32).mono ?_
      rintro e w1 ⟨rfl, hx⟩
      have hx := hid hx
      obtain ⟨r, hr⟩ : ∃ r, p s = r := ⟨_, rfl⟩
      rw [hr]
      cases r with
      | true =>
        have HR := hid hr; clear hr
        go_wp2
        go_ret
        exact ⟨ret_int (ixN_hit ha.out HK.out HR.out).symm, he.out.trans hx.out⟩
      | false =>
        have HR := hid hr; clear hr
        go_wp2
        go_roundw
        case rel =>
          refine ⟨k + 1, by omega, by go_num, hid (he.out.trans hx.out), hid fun j hj y hy => ?_⟩
          rcases Nat.lt_or_ge j k with h | h
          · exact ha.out j h y hy
          · obtain rfl : j = k := by omega
            have := HK.out.symm.trans hy
            injection this with this
            rw [← this]; exact HR.out
        case measure => simp [intOf]; omega
    · go_wp2
      go_ret
      exact ⟨ret_int (ixN_miss (fun j hj => ha.out j (by have := HL.out; omega))).symm, he.out⟩

/-! ### Index, Contains -/
set_option maxRecDepth 100000 in
set_option maxHeartbeats 400000 in
theorem index32_any (w : World) (S : Nat → Prop) (A : Option Addr) (n c : Nat) (l : List Nat) (hl : Sl u32R w S (.slice A n c) l) (hn : n ≤ 1000000) (x : Nat) :
    Calls Try.prog 44 #[.slice A n c, .int .u32 x] w fun e w' => e = .returned (.int .i64 (ixN (fun y => y == x) l)) ∧ w = w' := by
  have hln := hl.len
  have HS := hid hl; clear hl
  have HL := hid hln; clear hln
  go_enter Try.func44, Try.ntmps44
  go_wp2
  go_loop [8] (fun i => ∃ k : Nat, k ≤ n ∧ i = .int .i64 k ∧ Hid (∀ j, j < k → ∀ y, l[j]? = some y → (y == x) = false)) (fun i => n - (intOf i).toNat)
  case atStart => exact ⟨0, by omega, rfl, hid (by omega)⟩
  case round =>
    obtain ⟨k, hk, rfl, ha⟩ := hrel
    by_cases h1 : k < n
    · obtain ⟨s, hs⟩ : ∃ s, l[k]? = some s := ⟨_, List.getElem?_eq_getElem (by have := HL.out; omega)⟩
      obtain ⟨b, off, rfl, c0, hs32⟩ := HS.out.num_at hs
      have HK := hid hs; clear hs
      by_cases h2 : s = x
      · subst h2
        have h3 : ((s : Int) == (s : Int)) = true := by simp
        go_wp2
        go_ret
        exact ⟨ret_int (ixN_hit ha.out HK.out (by simp)).symm, rfl⟩
      · have h3 : ((x : Int) == (s : Int)) = false := by simp; omega
        go_wp2
        go_round
        case rel =>
          refine ⟨k + 1, by omega, by go_num, hid fun j hj y hy => ?_⟩
          rcases Nat.lt_or_ge j k with h | h
          · exact ha.out j h y hy
          · obtain rfl : j = k := by omega
            have := HK.out.symm.trans hy
            injection this with this
            rw [← this]; simpa using h2
        case measure => simp [intOf]; omega
    · go_wp2
      go_ret
      exact ⟨ret_int (ixN_miss (fun j hj => ha.out j (by have := HL.out; omega))).symm, rfl⟩
theorem ixN_contains (l : List Nat) (x : Nat) : decide (0 ≤ ixN (fun y => y == x) l) = l.contains x := by
  rcases ixN_cases (fun y => y == x) l with ⟨h1, h2⟩ | ⟨k, y, h1, h2, h3, _⟩
  · rw [h1]
    have : ¬ x ∈ l := fun h => by have := h2 x h; simp at this
    simp [this]
  · rw [h1]
    simp at h3
    subst h3
    have := List.mem_of_getElem? h2
    simp [this]
set_option maxRecDepth 100000 in
set_option maxHeartbeats 400000 in
theorem contains32_any (w : World) (S : Nat → Prop) (A : Option Addr) (n c : Nat) (l : List Nat) (hl : Sl u32R w S (.slice A n c) l) (hn : n ≤ 1000000) (x : Nat) :
    Calls Try.prog 35 #[.slice A n c, .int .u32 x] w fun e w' => e = .returned (.bool (l.contains x)) ∧ w = w' := by
  have hc := index32_any w S A n c l hl hn x
  have HI := ixN_contains l x
  generalize l.contains x = b at *
  generalize ixN (fun y => y == x) l = i at *
  have HS := hid hl; clear hl
  have HC := hid hc; clear hc
  have HI := hid HI
  go_enter Try.func35, Try.ntmps35
  go_wp2_with fail
  refine HC.out.mono ?_
  rintro e w1 ⟨rfl, rfl⟩
  go_wp2
  all_goals
    go_ret
    exact ⟨ret_bool (by rw [← HI.out]), rfl⟩

/-! ### DeleteFunc -/
/-- What the row holds while DeleteFunc runs. -/
structure Del (p : Nat → Bool) (l R : List Nat) (m k : Nat) : Prop where
  len : R.length = l.length
  low : R.take k = (l.take m).filter fun x => !p x
  kl : k = ((l.take m).filter fun x => !p x).length
  high : ∀ t, m ≤ t → R[t]? = l[t]?
  lt : k < m
theorem Del.start {p : Nat → Bool} {l : List Nat} {k x : Nat} (h1 : l[k]? = some x) (h2 : p x = true) (h3 : ∀ y ∈ l.take k, p y = false) : Del p l l (k + 1) k := by
  have hk := (List.getElem?_eq_some_iff.1 h1).1
  have e : (l.take k).filter (fun x => !p x) = l.take k := List.filter_eq_self.2 fun y hy => by simp [h3 y hy]
  have e2 : (l.take (k + 1)).filter (fun x => !p x) = l.take k := by rw [take_snoc' h1, List.filter_append, e]; simp [h2]
  exact ⟨rfl, e2.symm, by rw [e2, List.length_take]; omega, fun _ _ => rfl, by omega⟩
theorem Del.skip {p : Nat → Bool} {l R : List Nat} {m k x : Nat} (h : Del p l R m k) (h1 : l[m]? = some x) (h2 : p x = true) : Del p l R (m + 1) k := by
  have e : (l.take (m + 1)).filter (fun x => !p x) = (l.take m).filter fun x => !p x := by rw [take_snoc' h1, List.filter_append]; simp [h2]
  exact ⟨h.len, by rw [e]; exact h.low, by rw [e]; exact h.kl, fun t ht => h.high t (by omega), by have := h.lt; omega⟩
theorem Del.keep {p : Nat → Bool} {l R : List Nat} {m k x : Nat} (h : Del p l R m k) (h1 : l[m]? = some x) (h2 : p x = false) : Del p l (R.set k x) (m + 1) (k + 1) := by
  have hm := (List.getElem?_eq_some_iff.1 h1).1
  have e : (l.take (m + 1)).filter (fun x => !p x) = ((l.take m).filter fun x => !p x) ++ [x] := by rw [take_snoc' h1, List.filter_append]; simp [h2]
  have hlt := h.lt
  refine ⟨by rw [List.length_set]; exact h.len, ?_, by rw [e, List.length_append, ← h.kl]; rfl, fun t ht => ?_, by omega⟩
  · rw [take_set_snoc (by rw [h.len]; omega), h.low, e]
  · rw [List.getElem?_set_ne (by omega)]
    exact h.high t (by omega)

set_option maxRecDepth 100000 in
set_option maxHeartbeats 2000000 in
theorem delete_any (g0 : FuncId) (cap : Value) (wo w : World) (ho : Ext wo w) (p : Nat → Bool) (hp : NumPred g0 cap wo p) (hg0 : ∀ args w, (callFunc g0 args).run Try.prog w = .ok (.enter g0 args) w)
    (A : Option Addr) (n c : Nat) (l : List Nat) (hown : OwnS u32R w wo.heap.size 32 All (.slice A n c) l) (hn : n ≤ 1000000) :
    Calls Try.prog 30 #[.slice A n c, .func (.func g0) #[] #[cap]] w (RowPost wo (l.filter fun x => !p x)) := by
  have hln := hown.len
  have hl32 := hown.num_lt
  obtain ⟨L, hL⟩ : ∃ L, (l.filter fun x => !p x) = L := ⟨_, rfl⟩
  rw [hL]
  have HLL := hid hL; clear hL
  have HO := hid hown
  have HX := hid ho; clear ho
  have HLN := hid hln; clear hln
  have HP := hid hp; clear hp
  have HL32 := hid hl32; clear hl32
  have hix := ixN_cases p l
  obtain ⟨i, hi⟩ : ∃ i, ixN p l = i := ⟨_, rfl⟩
  rw [hi] at hix
  have HI := hid hi; clear hi
  have HIX := hid hix; clear hix
  go_enter Try.func30, Try.ntmps30
  go_wp2_with fail
  refine (index32f_any g0 cap w p (fun w' x hb hs hx => HP.out w' x (fun b h => (hb b (by obtain ⟨c', e', f', h'⟩ := h; exact ⟨c', e', f', HX.out.heapAt h'⟩)).trans (HX.out.block h.lt)) (Nat.le_trans HX.out.size hs) hx) All A n c l HO.out.sl hn hg0).mono ?_
  rintro e w1 ⟨rfl, hx1⟩
  rw [HI.out]
  have HX1 := hid (HX.out.trans hx1)
  have HO1 := hid (HO.out.ext hx1)
  clear hx1 hown
  rcases HIX.out with ⟨rfl, hno⟩ | ⟨k, x, rfl, hk, hpx, hlow⟩
  · have HN := hid hno; clear hno
    go_wp2
    go_ret
    have e : l.filter (fun x => !p x) = l := List.filter_eq_self.2 fun y hy => by simp [HN.out y hy]
    rw [← HLL.out, e]
    have hh := HO1.out
    rw [HLN.out] at hh ⊢
    exact ⟨HX1.out, A, c, rfl, hh⟩
  · have hkl : k < l.length := (List.getElem?_eq_some_iff.1 hk).1
    have hkn : k < n := by have := HLN.out; omega
    have HD0 := hid (Del.start hk hpx hlow)
    clear hk hpx hlow hkl
    obtain ⟨g, rfl, hg1, hg2⟩ := HO1.out.at0 (by omega)
    have hcap : n ≤ c ∧ c ≤ 9223372036854775807 := by
      obtain ⟨A', c', hv, h3, h4⟩ := HO1.out.form
      cases hv
      have := HLN.out
      exact ⟨by omega, h4⟩
    have hnc := hcap.1
    have hcm := hcap.2
    clear hcap
    have hk1 : ((k : Int) == -1) = false := by simp
    go_wp2
    clear hg2
    go_loopw [5, 6] (fun s5 s6 wr => ∃ (q m : Nat) (R : List Nat), s5 = .int .i64 q ∧ s6 = .int .i64 m ∧ m ≤ n ∧ Hid (Ext wo wr) ∧ Hid (OwnS u32R wr wo.heap.size 32 All (.slice (some ⟨g, 0, none⟩) n c) R) ∧ Hid (Del p l R m q)) (fun _ s6 _ => n - (intOf s6).toNat)
    case atStart => exact ⟨k, k + 1, l, rfl, by go_num, by omega, HX1, HO1, HD0⟩
    case round =>
      clear HX1 HO1 HD0
      obtain ⟨q, m, R, rfl, rfl, hm, HX1, HO1, HD⟩ := hrel
      have hqlt : q < m := HD.out.lt
      by_cases h3 : m < n
      · obtain ⟨u, hu⟩ : ∃ u, l[m]? = some u := ⟨_, List.getElem?_eq_getElem (by have := HLN.out; omega)⟩
        have hu32 : u < 4294967296 := HL32.out u (List.mem_of_getElem? hu)
        obtain ⟨cu, -⟩ := HO1.out.num_cell ((HD.out.high _ (Nat.le_refl _)).trans hu)
        have HU := hid hu; clear hu
        go_wp2_with fail
        refine (HP.out wr u (fun b hb => HX1.out.block hb.lt) HX1.out.size hu32).mono ?_
        rintro e w2 ⟨rfl, hx2⟩
        have HX2 := hid (HX1.out.trans hx2)
        have HO2 := hid (HO1.out.ext hx2)
        clear hx2 cu
        obtain ⟨r, hr⟩ : ∃ r, p u = r := ⟨_, rfl⟩
        rw [hr]
        have HR := hid hr; clear hr
        cases r with
        | true =>
          go_wp2
          go_roundw
          case rel => exact ⟨q, m + 1, R, rfl, by go_num, by omega, HX2, HO2, hid (HD.out.skip HU.out HR.out)⟩
          case measure => simp [intOf]; omega
        | false =>
          obtain ⟨z, hz⟩ : ∃ z, R[q]? = some z := ⟨_, List.getElem?_eq_getElem (by have := HLN.out; have := HD.out.len; omega)⟩
          obtain ⟨cz, fz⟩ := HO2.out.num_cell hz
          clear hz
          go_wp2
          go_roundw
          case rel => exact ⟨q + 1, m + 1, R.set q u, by go_num, by go_num, by omega, hid (HX2.out.setCell hg1 _), hid (HO2.out.num_set hu32 q), hid (HD.out.keep HU.out HR.out)⟩
          case measure => simp [intOf]; omega
      · obtain rfl : m = n := by omega
        have hcl := fun ty => clear_run HO1.out (k := q) (by omega) ty
        have hcq : ¬ c = q := by omega
        go_wp2
        go_ret
        obtain ⟨R', h5, h6⟩ := own_clear (kd := .u32) (bd := 4294967296) (by omega) (m - q) q HO1.out
        have h7 := own_take h5 (k := q) (by omega) (by omega)
        have e1 : l.take m = l := List.take_of_length_le (by have := HLN.out; omega)
        rw [h6, HD.out.low, e1, HLL.out] at h7
        have h8 := HD.out.kl
        rw [e1, HLL.out] at h8
        subst h8
        exact ⟨ext_setCells hg1 _ _ HX1.out, _, _, rfl, h7⟩
end Go.Proofs.Ytnlmhnbogleijaa
