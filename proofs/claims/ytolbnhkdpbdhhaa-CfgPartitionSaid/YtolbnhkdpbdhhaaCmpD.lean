/- slices.Compact at []uint32, with one block more that stays as it lies. -/
import Derived.Test.YtolbnhkdpbdhhaaU32A
namespace Go.Proofs.Ytolbnhkdpbdhhaa
open Go.RowKit Go.Deco
set_option linter.unusedSimpArgs false
set_option linter.unusedVariables false

/-- What lay in wo lies as it lay, and block D holds o. -/
structure ExtD (wo : World) (D : Nat) (o : Obj) (w : World) : Prop where
  ext : Ext wo w
  obj : w.heap[D]? = some o
theorem ExtD.drewN {wo w : World} {D : Nat} {o : Obj} (h : ExtD wo D o w) (k : Nat) : ExtD wo D o (w.drewN k) := ⟨h.ext.drewN k, by
  have := h.obj
  simpa using this⟩
theorem ExtD.setCell {wo w : World} {D : Nat} {o : Obj} (h : ExtD wo D o w) {p : Addr} (hp : wo.heap.size ≤ p.block) (hd : p.block ≠ D) (u : Value) : ExtD wo D o (w.setCell p u) :=
  ⟨h.ext.setCell hp u, (Below.heap_setCell _ _ _ D (fun e => hd e.symm)).trans h.obj⟩
theorem extD_setCells {wo : World} {D : Nat} {o : Obj} {g : Nat} (hg : wo.heap.size ≤ g) (hd : g ≠ D) : ∀ (vs : List Value) (k : Nat) {w : World}, ExtD wo D o w → ExtD wo D o (w.setCells g k vs)
  | [], k, w, h => by simpa [World.setCells] using h
  | v :: vs, k, w, h => by simpa [World.setCells] using extD_setCells hg hd vs (k + 1) (h.setCell hg hd v)
def RowPostD (wo : World) (D : Nat) (o : Obj) (l : List Nat) (e : Ending) (w' : World) : Prop := ExtD wo D o w' ∧ ∃ A c, e = .returned (.slice A l.length c) ∧ OwnS u32R w' wo.heap.size 39 All (.slice A l.length c) l

set_option maxRecDepth 100000 in
set_option maxHeartbeats 2000000 in
theorem compactD_any (wo w : World) (D : Nat) (o : Obj) (ho : ExtD wo D o w) (A : Option Addr) (n c : Nat) (l : List Nat) (hown : OwnS u32R w wo.heap.size 39 All (.slice A n c) l) (hn : n ≤ 1000000) (hD : ∀ g, A = some ⟨g, 0, none⟩ → g ≠ D) :
    Calls Try.prog 51 #[.slice A n c] w (RowPostD wo D o (ddn l n)) := by
  have hln := hown.len
  obtain ⟨L, hL⟩ : ∃ L, ddn l n = L := ⟨_, rfl⟩
  rw [hL]
  have HLL := hid hL; clear hL
  have HO := hid hown
  have HX := hid ho; clear ho
  have HLN := hid hln; clear hln
  by_cases h2 : n < 2
  · clear hown hD
    go_enter Try.func51, Try.ntmps51
    go_wp2
    go_ret
    have e : ddn l n = l := by
      have := ddn_all (l := l) (m := n) (by have := HLN.out; omega) (fun j h3 h4 => by omega)
      rw [this, List.take_of_length_le (by have := HLN.out; omega)]
    rw [← HLL.out, e]
    have hh := HO.out
    rw [HLN.out] at hh ⊢
    exact ⟨HX.out, A, c, rfl, hh⟩
  · obtain ⟨g, rfl, hg1, hg2⟩ := hown.at0 (by omega)
    have HGD := hid (hD g rfl)
    clear hD
    clear hown
    have hcap : n ≤ c ∧ c ≤ 9223372036854775807 := by
      obtain ⟨A', c', hv, h3, h4⟩ := HO.out.form
      cases hv
      have := HLN.out
      exact ⟨by omega, h4⟩
    have hnc := hcap.1
    have hcm := hcap.2
    clear hcap
    go_enter Try.func51, Try.ntmps51
    go_wp2
    go_loopw [3] (fun i wr => ∃ k : Nat, 1 ≤ k ∧ k ≤ n ∧ i = .int .i64 k ∧ Hid (ExtD wo D o wr) ∧ Hid (OwnS u32R wr wo.heap.size 39 All (.slice (some ⟨g, 0, none⟩) n c) l) ∧ Hid (∀ j, 0 < j → j < k → l[j]? ≠ l[j - 1]?)) (fun i _ => n - (intOf i).toNat)
    case atStart => exact ⟨1, by omega, by omega, rfl, HX, HO, hid (fun j h3 h4 => by omega)⟩
    case round =>
      obtain ⟨k, hk0, hk, rfl, HX1, HO1, ha⟩ := hrel
      by_cases h1 : k < n
      · obtain ⟨x, hx⟩ : ∃ x, l[k]? = some x := ⟨_, List.getElem?_eq_getElem (by have := HLN.out; omega)⟩
        obtain ⟨y, hy⟩ : ∃ y, l[k - 1]? = some y := ⟨_, List.getElem?_eq_getElem (by have := HLN.out; omega)⟩
        obtain ⟨cx, fx⟩ := HO1.out.num_cell hx
        obtain ⟨cy, fy⟩ := HO1.out.num_cell hy
        have HXK := hid hx; clear hx
        have HYK := hid hy; clear hy
        have hkk : (k : Int) - 1 = ((k - 1 : Nat) : Int) := by omega
        by_cases hxy : x = y
        · subst hxy
          have hxx : ((x : Int) == (x : Int)) = true := by simp
          go_wp2_with fail
          go_quiet (fail)
          clear hxx cx cy fx fy
          have hck : ¬ c = k := by omega
          go_wp2
          clear hkk
          go_loopw [3, 5] (fun s3 s5 wi => ∃ (q j : Nat) (R : List Nat), s3 = .int .i64 q ∧ s5 = .int .i64 j ∧ 1 ≤ j ∧ k + j ≤ n ∧ Hid (ExtD wo D o wi) ∧ Hid (OwnS u32R wi wo.heap.size 39 All (.slice (some ⟨g, 0, none⟩) n c) R) ∧ Hid (Comp l R (k + j) q)) (fun _ s5 _ => n - (intOf s5).toNat)
          case atStart => exact ⟨k, 1, l, rfl, rfl, Nat.le_refl _, by omega, hid (HX1.out.drewN _), hid (HO1.out.drN _), hid (Comp.start (by have := HLN.out; omega) hk0 ha.out HXK.out HYK.out)⟩
          case round =>
            clear HX1 HO1
            obtain ⟨q, j, R, rfl, rfl, hj, hjn, HX1, HO1, HC⟩ := hrel
            have hqlt : q < k + j := HC.out.lt
            by_cases h3 : k + j < n
            · have hjk : (j : Int) < ((n - k : Nat) : Int) := by omega
              obtain ⟨u, hu⟩ : ∃ u, l[k + j]? = some u := ⟨_, List.getElem?_eq_getElem (by have := HLN.out; omega)⟩
              obtain ⟨v, hv⟩ : ∃ v, l[k + j - 1]? = some v := ⟨_, List.getElem?_eq_getElem (by have := HLN.out; omega)⟩
              obtain ⟨z, hz⟩ : ∃ z, R[q]? = some z := ⟨_, List.getElem?_eq_getElem (by have := HLN.out; have := HC.out.len; omega)⟩
              obtain ⟨cu, fu⟩ := HO1.out.num_cell ((HC.out.high _ (by omega)).trans hu)
              obtain ⟨cv, fv⟩ := HO1.out.num_cell ((HC.out.high _ (by omega)).trans hv)
              obtain ⟨cz, fz⟩ := HO1.out.num_cell hz
              have hu32 : u < 4294967296 := HO1.out.num_lt u (List.mem_of_getElem? ((HC.out.high _ (by omega)).trans hu))
              rw [show k + j - 1 = k + (j - 1) by omega] at cv
              have HU := hid hu; clear hu
              have HV := hid hv; clear hv
              have hjj : (j : Int) - 1 = ((j - 1 : Nat) : Int) := by omega
              clear hz fu fv
              by_cases huv : u = v
              · subst huv
                have hxx : ((u : Int) != (u : Int)) = false := by simp
                go_wp2_with fail
                go_quiet (fail)
                clear hxx hjj cu cv cz
                go_wp2
                go_roundw
                case rel => exact ⟨q, j + 1, R, rfl, by go_num, by omega, by omega, hid (HX1.out.drewN _), hid (HO1.out.drN _), hid (HC.out.skip HU.out HV.out)⟩
                case measure => simp [intOf]; omega
              · have hxx : ((u : Int) != (v : Int)) = true := by simp; omega
                go_wp2_with fail
                go_quiet (fail)
                clear hxx hjj
                go_wp2
                go_roundw
                case rel => exact ⟨q + 1, j + 1, R.set q u, by go_num, by go_num, by omega, by omega, hid ((HX1.out.drewN _).setCell hg1 HGD.out _), hid ((HO1.out.drN _).num_set hu32 q), hid (HC.out.keep (by have := HLN.out; omega) HU.out HV.out huv)⟩
                case measure => simp [intOf]; omega
            · have hjk : ¬ (j : Int) < ((n - k : Nat) : Int) := by omega
              have hkj : k + j = n := by omega
              have hcl := fun ty => clear_run HO1.out (k := q) (by omega) ty
              have hcq : ¬ c = q := by omega
              go_wp2
              go_ret
              obtain ⟨R', h5, h6⟩ := own_clear (kd := .u32) (bd := 4294967296) (by omega) (n - q) q HO1.out
              have h7 := own_take h5 (k := q) (by omega) (by omega)
              rw [h6, HC.out.low, hkj, HLL.out] at h7
              have h8 := HC.out.kl
              rw [hkj, HLL.out] at h8
              subst h8
              exact ⟨extD_setCells hg1 HGD.out _ _ HX1.out, _, _, rfl, h7⟩
        · have hxx : ((x : Int) == (y : Int)) = false := by simp; omega
          go_wp2_with fail
          go_quiet (fail)
          go_wp2
          go_roundw
          case rel =>
            refine ⟨k + 1, by omega, by omega, by go_num, hid (HX1.out.drewN _), hid (HO1.out.drN _), hid fun j h3 h4 => ?_⟩
            · rcases Nat.lt_or_ge j k with h5 | h5
              · exact ha.out j h3 h5
              · obtain rfl : j = k := by omega
                rw [HXK.out, HYK.out]
                intro e
                injection e with e
                exact hxy e
          case measure => simp [intOf]; omega
      · obtain rfl : k = n := by omega
        go_wp2
        go_ret
        have e : ddn l k = l := by
          have := ddn_all (l := l) (m := k) (by have := HLN.out; omega) ha.out
          rw [this, List.take_of_length_le (by have := HLN.out; omega)]
        rw [← HLL.out, e]
        have hh := HO1.out
        rw [HLN.out] at hh ⊢
        exact ⟨HX1.out, some ⟨g, 0, none⟩, c, rfl, hh⟩
end Go.Proofs.Ytolbnhkdpbdhhaa
