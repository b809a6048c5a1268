/- decompilerref06: duplicate, Check, Find. -/
import Derived.Test.YtnlofhbimfcejaaSymB
import Derived.Test.YtnlofhbimfcejaaReg
import Derived.Test.YtnlofhbimfcejaaR5A
namespace Go.Proofs.Ytnlofhbimfcejaa
open Go.RowKit Go.Deco
set_option linter.unusedSimpArgs false
set_option linter.unusedVariables false

def BoolIs (w : World) (b : Bool) (e : Ending) (w' : World) : Prop := e = .returned (.bool b) ∧ Ext w w'
theorem contains_take {l : List Sy} {x : List UInt8} {k j : Nat} {s : Sy} (hj : l[j]? = some s) (hk : j < k) (hx : s.key = x) : ((l.take k).map Sy.key).contains x = true := by
  rw [List.contains_iff_mem, List.mem_map]
  refine ⟨s, ?_, hx⟩
  have : (l.take k)[j]? = some s := by rw [List.getElem?_take_of_lt hk, hj]
  exact List.mem_of_getElem? this
theorem contains_none {l : List Sy} {x : List UInt8} {k : Nat} (h : ∀ (j : Nat) s, j < k → l[j]? = some s → s.key ≠ x) : ((l.take k).map Sy.key).contains x = false := by
  rw [Bool.eq_false_iff]
  intro hc
  rw [List.contains_iff_mem, List.mem_map] at hc
  obtain ⟨s, hs, hx⟩ := hc
  obtain ⟨j, hj, rfl⟩ := List.getElem_of_mem hs
  rw [List.length_take] at hj
  exact h j _ (by omega) (by rw [List.getElem_take]; exact List.getElem?_eq_getElem (by omega)) hx

set_option maxRecDepth 100000 in
set_option maxHeartbeats 2000000 in
theorem dup6_any (w : World) (A : Option Addr) (n c : Nat) (l : List Sy) (hl : Sl symR w All (.slice A n c) l) :
    Calls Try.prog 57 #[.slice A n c] w (BoolIs w (dupTo [] l)) := by
  have hln := hl.len
  obtain ⟨hnc, hcm⟩ := hl.cap
  obtain ⟨z, hz⟩ : ∃ z, dupTo [] l = z := ⟨_, rfl⟩
  rw [hz]
  have HZ := hid hz
  have HL := hid hl
  have HLN := hid hln
  clear hz hl hln
  go_enter Try.func57, Try.ntmps57
  go_wp2
  go_loopw [3] (fun i wr => ∃ k : Nat, k ≤ n ∧ i = .int .i64 k ∧ Hid (Ext w wr) ∧ Hid (dupTo (l.take k) (l.drop k) = dupTo [] l)) (fun i _ => n - (intOf i).toNat)
  case atStart => exact ⟨0, by omega, rfl, hid (Ext.refl _), hid rfl⟩
  case round =>
    obtain ⟨k, hk, rfl, HX, HD⟩ := hrel
    by_cases h1 : k < n
    · obtain ⟨s, hs⟩ : ∃ s, l[k]? = some s := ⟨_, List.getElem?_eq_getElem (by have := HLN.out; omega)⟩
      have HK := hid hs
      clear hs
      obtain ⟨V, hV⟩ : ∃ V, V = wr := ⟨_, rfl⟩
      obtain rfl := hV
      go_wp2
      go_loopw [4] (fun i wr => ∃ j : Nat, j ≤ k ∧ i = .int .i64 j ∧ Hid (Ext w wr) ∧ Hid (∀ (q : Nat) t, q < j → l[q]? = some t → t.key ≠ s.key)) (fun i _ => k - (intOf i).toNat)
      case atStart => exact ⟨0, by omega, rfl, HX, hid (by omega)⟩
      case round =>
        obtain ⟨j, hj, rfl, HX2, HN⟩ := hrel
        by_cases h2 : j < k
        · obtain ⟨t, ht⟩ : ∃ t, l[j]? = some t := ⟨_, List.getElem?_eq_getElem (by have := HLN.out; omega)⟩
          obtain ⟨b, off, rfl, c0, -, -, -, -, -, -⟩ := Sl.sym_at (HL.out.ext HX2.out) ht
          obtain ⟨b', off', hA, d0, -, -, -, -, -, -⟩ := Sl.sym_at (HL.out.ext HX2.out) HK.out
          cases hA
          have HJ := hid ht
          clear ht
          have i1 : (0 : Int) ≤ (j : Int) := by omega
          have i2 : (j : Int) < (n : Int) := by omega
          have i3 : (0 : Int) ≤ (k : Int) := by omega
          have i4 : (k : Int) < (n : Int) := by omega
          obtain ⟨r, hr⟩ : ∃ r, (t.name.toList == s.name.toList) = r := ⟨_, rfl⟩
          have HR := hid hr
          rw [← hr] at HR
          go_wp2_with fail
          refine wp_region_held_drew (S := (fun w' => w'.cell? ⟨b, off + j * 3, none⟩ = some (.string t.name) ∧ w'.cell? ⟨b, off + k * 3, none⟩ = some (.string s.name))) (by kernel_rfl) ⟨c0, d0⟩ (fun hSR0 => ?_)
          refine wpAnyH_takeL (i := 0) (v := ?Rv0) rfl (by kernel_rfl) (by kernel_rfl) (by kernel_rfl) (fun _ _ _ h => h) (Or.inl ⟨by rfl, ?Ry0⟩) (by assumption) ?Rr0
          case Ry0 => first | (intro w hSw; (try dsimp only at hSw); go_simp; done) | (intro w hSw; (try dsimp only at hSw); go_simp; with_reducible rfl)
          case' Rr0 => try simp only [Act.put, List.setIfInBounds_toArray, List.set_cons_zero, List.set_cons_succ]
          refine wpAnyH_takeL (i := 1) (v := ?Rv1) rfl (by kernel_rfl) (by kernel_rfl) (by kernel_rfl) (fun _ _ _ h => h) (Or.inl ⟨by rfl, ?Ry1⟩) (by assumption) ?Rr1
          case Ry1 => first | (intro w hSw; (try dsimp only at hSw); go_simp; done) | (intro w hSw; (try dsimp only at hSw); go_simp; with_reducible rfl)
          case' Rr1 => try simp only [Act.put, List.setIfInBounds_toArray, List.set_cons_zero, List.set_cons_succ]
          refine wpAnyH_takeL (i := 2) (v := ?Rv2) rfl (by kernel_rfl) (by kernel_rfl) (by kernel_rfl) (fun _ _ _ h => h) (Or.inl ⟨by rfl, ?Ry2⟩) (by assumption) ?Rr2
          case Ry2 => first | (intro w hSw; (try dsimp only at hSw); go_simp; done) | (intro w hSw; (try dsimp only at hSw); go_simp; with_reducible rfl)
          case' Rr2 => try simp only [Act.put, List.setIfInBounds_toArray, List.set_cons_zero, List.set_cons_succ]
          refine wpAnyH_takeL (i := 3) (v := ?Rv3) rfl (by kernel_rfl) (by kernel_rfl) (by kernel_rfl) (fun _ _ _ h => h) (Or.inl ⟨by rfl, ?Ry3⟩) (by assumption) ?Rr3
          case Ry3 => first | (intro w hSw; (try dsimp only at hSw); go_simp; done) | (intro w hSw; (try dsimp only at hSw); go_simp; with_reducible rfl)
          case' Rr3 => try simp only [Act.put, List.setIfInBounds_toArray, List.set_cons_zero, List.set_cons_succ]
          refine wpAnyH_takeL (i := 4) (v := ?Rv4) rfl (by kernel_rfl) (by kernel_rfl) (by kernel_rfl) (fun _ _ _ h => h) (Or.inl ⟨by rfl, ?Ry4⟩) (by assumption) ?Rr4
          case Ry4 => first | (intro w hSw; (try dsimp only at hSw); go_simp; done) | (intro w hSw; (try dsimp only at hSw); go_simp; with_reducible rfl)
          case' Rr4 => try simp only [Act.put, List.setIfInBounds_toArray, List.set_cons_zero, List.set_cons_succ]
          refine wpAnyH_takeL (i := 5) (v := ?Rv5) rfl (by kernel_rfl) (by kernel_rfl) (by kernel_rfl) (fun _ _ _ h => h) (Or.inl ⟨by rfl, ?Ry5⟩) (by assumption) ?Rr5
          case Ry5 => first | (intro w hSw; (try dsimp only at hSw); go_simp; done) | (intro w hSw; (try dsimp only at hSw); go_simp; with_reducible rfl)
          case' Rr5 => try simp only [Act.put, List.setIfInBounds_toArray, List.set_cons_zero, List.set_cons_succ]
          refine wpAnyH_takeL (i := 6) (v := ?Rv6) rfl (by kernel_rfl) (by kernel_rfl) (by kernel_rfl) (fun _ _ _ h => h) (Or.inl ⟨by rfl, ?Ry6⟩) (by assumption) ?Rr6
          case Ry6 => first | (intro w hSw; (try dsimp only at hSw); go_simp; done) | (intro w hSw; (try dsimp only at hSw); go_simp; with_reducible rfl)
          case' Rr6 => try simp only [Act.put, List.setIfInBounds_toArray, List.set_cons_zero, List.set_cons_succ]
          refine wpAnyH_takeL (i := 7) (v := ?Rv7) rfl (by kernel_rfl) (by kernel_rfl) (by kernel_rfl) (fun _ _ _ h => h) (Or.inl ⟨by rfl, ?Ry7⟩) (by assumption) ?Rr7
          case Ry7 => first | (intro w hSw; (try dsimp only at hSw); go_simp; done) | (intro w hSw; (try dsimp only at hSw); go_simp; with_reducible rfl)
          case' Rr7 => try simp only [Act.put, List.setIfInBounds_toArray, List.set_cons_zero, List.set_cons_succ]
          refine wpAnyH_takeL (i := 8) (v := ?Rv8) rfl (by kernel_rfl) (by kernel_rfl) (by kernel_rfl) (fun _ _ _ h => h) (Or.inl ⟨by rfl, ?Ry8⟩) (by assumption) ?Rr8
          case Ry8 => first | (intro w hSw; (try dsimp only at hSw); go_simp; done) | (intro w hSw; (try dsimp only at hSw); go_simp; with_reducible rfl)
          case' Rr8 => try simp only [Act.put, List.setIfInBounds_toArray, List.set_cons_zero, List.set_cons_succ]
          refine wpAnyH_takeL (i := 9) (v := ?Rv9) rfl (by kernel_rfl) (by kernel_rfl) (by kernel_rfl) (fun _ _ _ h => h) (Or.inl ⟨by rfl, ?Ry9⟩) (by assumption) ?Rr9
          case Ry9 => first | (intro w hSw; (try dsimp only at hSw); go_simp; done) | (intro w hSw; (try dsimp only at hSw); go_simp; with_reducible rfl)
          case' Rr9 => try simp only [Act.put, List.setIfInBounds_toArray, List.set_cons_zero, List.set_cons_succ]
          refine wpAnyH_takeL (i := 10) (v := ?Rv10) rfl (by kernel_rfl) (by kernel_rfl) (by kernel_rfl) (fun _ _ _ h => h) (Or.inl ⟨by rfl, ?Ry10⟩) (by assumption) ?Rr10
          case Ry10 => first | (intro w hSw; (try dsimp only at hSw); go_simp; done) | (intro w hSw; (try dsimp only at hSw); go_simp; with_reducible rfl)
          case' Rr10 => try simp only [Act.put, List.setIfInBounds_toArray, List.set_cons_zero, List.set_cons_succ]
          refine wpAnyH_done (by kernel_rfl) ?_ _
          cases r with
          | true =>
            have hk2 : t.key = s.key := by
              have : t.name.toList = s.name.toList := by simpa using hr
              rw [Sy.key, Sy.key, ← key_list, ← key_list, this]
            obtain rfl : z = true := by rw [← HZ.out]; exact dup_hit HK.out (contains_take HJ.out h2 hk2) HD.out
            clear HR hk2
            go_wp2
            go_ret
            exact ⟨rfl, HX2.out.drew⟩
          | false =>
            have HN2 : Hid (∀ (q : Nat) x, q < j + 1 → l[q]? = some x → x.key ≠ s.key) := hid (by
              intro q x hq hx
              rcases Nat.lt_or_ge q j with h | h
              · exact HN.out q x h hx
              · rw [show q = j by omega, HJ.out] at hx
                cases hx
                intro e
                rw [Sy.key, Sy.key, ← key_list, ← key_list] at e
                rw [e] at hr
                simp at hr)
            clear HR
            go_wp2
            first
              | go_roundw
              | refine ⟨?rel, ?measure⟩
            case rel => exact ⟨j + 1, by omega, by go_num, hid HX2.out.drew, HN2⟩
            case measure => simp [intOf]; omega
        · obtain rfl : j = k := by omega
          have HD2 := hid (dup_step HK.out (contains_none HN.out) HD.out)
          go_wp2
          first
            | go_roundw
            | refine ⟨?rel, ?measure⟩
          case rel => exact ⟨j + 1, by omega, by go_num, HX2, HD2⟩
          case measure => simp [intOf]; omega
    · obtain rfl : k = n := by omega
      have hdu : dupTo [] l = false := by
        have := HD.out
        rw [show k = l.length by have := HLN.out; omega] at this
        exact dup_end this
      obtain rfl : z = false := by rw [← HZ.out]; exact hdu
      clear hdu
      go_wp2
      go_ret
      exact ⟨rfl, HX.out⟩

set_option maxRecDepth 100000 in
set_option maxHeartbeats 2000000 in
theorem check6_any (w : World) (A : Option Addr) (n c : Nat) (l : List Sy) (hl : Sl symR w All (.slice A n c) l) :
    Calls Try.prog 33 #[.slice A n c] w (ErrIs w (symCheck l)) := by
  have hln := hl.len
  obtain ⟨hnc, hcm⟩ := hl.cap
  obtain ⟨z, hz⟩ : ∃ z, symCheck l = z := ⟨_, rfl⟩
  rw [hz]
  have HZ := hid hz
  have HL := hid hl
  have HLN := hid hln
  clear hz hl hln
  by_cases hbig : 256 < n
  · obtain rfl : z = 6 := by rw [← HZ.out]; exact symCheck_many (by have := HLN.out; omega)
    go_enter Try.func33, Try.ntmps33
    go_wp2
    go_ret
    exact ⟨rfl, Ext.refl w⟩
  · have HB : Hid (¬ 256 < l.length) := hid (by have := HLN.out; omega)
    go_enter Try.func33, Try.ntmps33
    go_wp2
    go_loop [3] (fun i => ∃ k : Nat, k ≤ n ∧ i = .int .i64 k ∧ Hid ((l.take k).all (fun s => nameB s.name) = true)) (fun i => n - (intOf i).toNat)
    case atStart => exact ⟨0, by omega, rfl, hid (by simp)⟩
    case round =>
      obtain ⟨k, hk, rfl, HA⟩ := hrel
      by_cases h1 : k < n
      · obtain ⟨s, hs⟩ : ∃ s, l[k]? = some s := ⟨_, List.getElem?_eq_getElem (by have := HLN.out; omega)⟩
        obtain ⟨b, off, rfl, c0, c1, c2, -, hs2, -, -⟩ := Sl.sym_at HL.out hs
        have HK := hid hs
        clear hs
        go_wp2_with fail
        refine (name5_any w s.name (by simpa [maxLen] using hs2)).mono ?_
        rintro e w1 ⟨rfl, rfl⟩
        obtain ⟨r, hr⟩ : ∃ r, nameB s.name = r := ⟨_, rfl⟩
        rw [hr]
        cases r with
        | false =>
          obtain rfl : z = 3 := by rw [← HZ.out]; exact symCheck_name HB.out HK.out hr
          clear hr
          go_wp2
          go_ret
          exact ⟨rfl, Ext.refl w⟩
        | true =>
          have HA2 := hid (all_step (p := fun s => nameB s.name) HK.out hr HA.out)
          clear hr
          go_wp2
          first
            | go_round
            | refine ⟨?rel, ?measure⟩
          case rel => exact ⟨k + 1, by omega, by go_num, HA2⟩
          case measure => simp [intOf]; omega
      · obtain rfl : k = n := by omega
        have hall := HA.out
        rw [List.take_of_length_le (by have := HLN.out; omega)] at hall
        have HALL := hid hall
        clear hall HA
        go_wp2_with fail
        refine (dup6_any w A k c l HL.out).mono ?_
        rintro e w1 ⟨rfl, hx1⟩
        obtain ⟨r, hr⟩ : ∃ r, dupTo [] l = r := ⟨_, rfl⟩
        rw [hr]
        have HX1 := hid hx1
        clear hx1
        cases r with
        | true =>
          obtain rfl : z = 8 := by rw [← HZ.out]; exact symCheck_dup HB.out HALL.out hr
          clear hr
          go_wp2
          go_ret
          exact ⟨rfl, HX1.out⟩
        | false =>
          have HDU := hid hr
          have HL1 := hid (HL.out.ext HX1.out)
          clear hr
          go_wp2
          go_loop [4] (fun i => ∃ q : Nat, q ≤ k ∧ i = .int .i64 q ∧ Hid ((l.take q).all (fun s => kindB s.kind) = true)) (fun i => k - (intOf i).toNat)
          case atStart => exact ⟨0, by omega, rfl, hid (by simp)⟩
          case round =>
            obtain ⟨q, hq, rfl, HA3⟩ := hrel
            by_cases h3 : q < k
            · obtain ⟨s, hs⟩ : ∃ s, l[q]? = some s := ⟨_, List.getElem?_eq_getElem (by have := HLN.out; omega)⟩
              obtain ⟨b, off, rfl, c0, c1, c2, -, hs2, -, -⟩ := Sl.sym_at HL1.out hs
              have HK := hid hs
              obtain ⟨kd, hkd⟩ : ∃ kd, s.kind = kd := ⟨_, rfl⟩
              rw [hkd] at c2
              clear hs
              by_cases h4 : kd = 1
              · have HA4 := hid (all_step (p := fun s => kindB s.kind) HK.out (by rw [hkd, h4]; rfl) HA3.out)
                subst h4
                clear hkd
                go_wp2
                first
                  | go_round
                  | refine ⟨?rel, ?measure⟩
                case rel => exact ⟨q + 1, by omega, by go_num, HA4⟩
                case measure => simp [intOf]; omega
              · have e1 : (kd != 1) = true := by simpa using h4
                by_cases h5 : kd = 2
                · have HA4 := hid (all_step (p := fun s => kindB s.kind) HK.out (by rw [hkd, h5]; rfl) HA3.out)
                  subst h5
                  clear hkd h4 e1
                  go_wp2
                  first
                    | go_round
                    | refine ⟨?rel, ?measure⟩
                  case rel => exact ⟨q + 1, by omega, by go_num, HA4⟩
                  case measure => simp [intOf]; omega
                · have e2 : (kd != 2) = true := by simpa using h5
                  obtain rfl : z = 2 := by
                    rw [← HZ.out]
                    exact symCheck_kind HB.out HALL.out HDU.out HK.out (by rw [hkd, kindB, decide_eq_false h4, decide_eq_false h5]; rfl)
                  clear hkd h4 h5
                  go_wp2
                  go_ret
                  exact ⟨rfl, HX1.out⟩
            · obtain rfl : q = k := by omega
              have hall := HA3.out
              rw [List.take_of_length_le (by have := HLN.out; omega)] at hall
              obtain rfl : z = 0 := by rw [← HZ.out]; exact symCheck_ok HB.out HALL.out HDU.out hall
              clear hall
              go_wp2
              go_ret
              exact ⟨rfl, HX1.out⟩
end Go.Proofs.Ytnlofhbimfcejaa
