/- symbol.Check. -/
import Derived.Test.YtekilcnkinmakaaDoorSymA
namespace Go.Proofs.YtekilcnkinmakaaDoor
open Go.RowKit Go.Deco
set_option linter.unusedSimpArgs false
set_option linter.unusedVariables false

theorem zero_boolS : ∀ w, (zeroValue 4).run Tryd.prog w = .ok (.bool false) w := fun w => by kernel_rfl
/-- The names seen, as a map to bool. -/
def seenF (l : List Sy) : List UInt8 → Option Value := fun x => if (l.map Sy.key).contains x then some (.bool true) else none
theorem seenF_look (l : List Sy) (x : List UInt8) (b : Bool) (h : (l.map Sy.key).contains x = b) : (seenF l x).getD (.bool false) = .bool b := by
  unfold seenF
  rw [h]
  cases b <;> rfl
theorem seenF_snoc (l : List Sy) (s : Sy) : ∀ x, seenF (l ++ [s]) x = if x = s.key then some (.bool true) else seenF l x := by
  intro x
  unfold seenF
  by_cases h : x = s.key
  · subst h
    rw [if_pos rfl, if_pos (by simp)]
  · rw [if_neg h]
    have : ((l ++ [s]).map Sy.key).contains x = (l.map Sy.key).contains x := by
      rw [Bool.eq_iff_iff]
      simp only [List.contains_iff_mem, List.map_append, List.mem_append, List.map_cons, List.map_nil, List.mem_singleton]
      exact ⟨fun hh => hh.resolve_right h, .inl⟩
    rw [this]
theorem symCheck_many {l : List Sy} (h : 256 < l.length) : symCheck l = 6 := by rw [symCheck, if_pos h]
theorem symCheck_name {l : List Sy} {k : Nat} {s : Sy} (h : ¬ 256 < l.length) (hk : l[k]? = some s) (hn : nameB s.name = false) : symCheck l = 3 := by
  rw [symCheck, if_neg h, all_hit (p := fun s => nameB s.name) hk hn]
  rfl
theorem symCheck_dup {l : List Sy} (h : ¬ 256 < l.length) (ha : l.all (fun s => nameB s.name) = true) (hd : dupTo [] l = true) : symCheck l = 8 := by
  rw [symCheck, if_neg h, ha, hd]
  rfl
theorem symCheck_kind {l : List Sy} {k : Nat} {s : Sy} (h : ¬ 256 < l.length) (ha : l.all (fun s => nameB s.name) = true) (hd : dupTo [] l = false) (hk : l[k]? = some s) (hn : kindB s.kind = false) : symCheck l = 2 := by
  rw [symCheck, if_neg h, ha, hd, all_hit (p := fun s => kindB s.kind) hk hn]
  rfl
theorem symCheck_ok {l : List Sy} (h : ¬ 256 < l.length) (ha : l.all (fun s => nameB s.name) = true) (hd : dupTo [] l = false) (hn : l.all (fun s => kindB s.kind) = true) : symCheck l = 0 := by
  rw [symCheck, if_neg h, ha, hd, hn]
  rfl
/-- A small number. -/
def ErrIs (w : World) (n : Nat) (e : Ending) (w' : World) : Prop := e = .returned (.int .i64 n) ∧ Ext w w'

set_option maxRecDepth 100000 in
set_option maxHeartbeats 4000000 in
theorem sycheck_any (w : World) (A : Option Addr) (n c : Nat) (l : List Sy) (hl : Sl symR w All (.slice A n c) l) :
    Calls Tryd.prog 14 #[.slice A n c] w (ErrIs w (symCheck l)) := by
  have hmm := @run_makeMap Tryd.prog
  have hln := hl.len
  obtain ⟨hnc, hcm⟩ := hl.cap
  obtain ⟨z, hz⟩ : ∃ z, symCheck l = z := ⟨_, rfl⟩
  rw [hz]
  have HZ := hid hz
  have HL := hid hl
  have HLN := hid hln
  clear hz hl hln
  by_cases hbig : 256 < n
  · obtain rfl : z = 6 := by rw [← HZ.out]; exact symCheck_many (by have := HLN.out; omega)
    go_enter Tryd.func14, Tryd.ntmps14
    go_wp2
    go_ret
    exact ⟨rfl, Ext.refl w⟩
  · have HB : Hid (¬ 256 < l.length) := hid (by have := HLN.out; omega)
    go_enter Tryd.func14, Tryd.ntmps14
    go_wp2
    go_loopw [15] (fun i wr => ∃ k : Nat, k ≤ n ∧ i = .int .i64 k ∧ Hid (Ext w wr) ∧ Hid ((l.take k).all (fun s => nameB s.name) = true)) (fun i _ => n - (intOf i).toNat)
    case atStart => exact ⟨0, by omega, rfl, hid (Ext.refl _), hid (by simp)⟩
    case round =>
      obtain ⟨k, hk, rfl, HX, HA⟩ := hrel
      by_cases h1 : k < n
      · obtain ⟨s, hs⟩ : ∃ s, l[k]? = some s := ⟨_, List.getElem?_eq_getElem (by have := HLN.out; omega)⟩
        obtain ⟨b, off, rfl, c0, c1, c2, -, hs2, -, -⟩ := Sl.sym_at (HL.out.ext HX.out) hs
        have HK := hid hs
        clear hs
        go_wp2_with fail
        refine (syname_any _ s.name (by simpa [maxLen] using hs2)).mono ?_
        rintro e w1 ⟨rfl, hx⟩
        have HX1 := hid (((HX.out.alloc _)).trans hx)
        clear hx
        obtain ⟨r, hr⟩ : ∃ r, nameB s.name = r := ⟨_, rfl⟩
        rw [hr]
        cases r with
        | false =>
          obtain rfl : z = 3 := by rw [← HZ.out]; exact symCheck_name HB.out HK.out hr
          clear hr
          go_wp2
          go_ret
          exact ⟨rfl, HX1.out⟩
        | true =>
          have HA2 := hid (all_step (p := fun s => nameB s.name) HK.out hr HA.out)
          clear hr
          go_wp2
          first
            | go_roundw
            | refine ⟨?rel, ?measure⟩
          case rel => exact ⟨k + 1, by omega, by go_num, HX1, HA2⟩
          case measure => simp [intOf]; omega
      · obtain rfl : k = n := by omega
        have hall := HA.out
        rw [List.take_of_length_le (by have := HLN.out; omega)] at hall
        have HALL := hid hall
        have hm0 := MapG.made (strK Tryd.underlying9) wr
        obtain ⟨W1, hW1⟩ : ∃ W1, wr.alloc (.map #[] 0) = W1 := ⟨_, rfl⟩
        rw [hW1] at hm0
        have hE1 : Ext wr W1 := by rw [← hW1]; exact (Ext.refl wr).alloc _
        have hs1 : W1.heap.size = wr.heap.size + 1 := by rw [← hW1]; simp
        obtain ⟨mb, hmb⟩ : ∃ mb, wr.heap.size = mb := ⟨_, rfl⟩
        rw [hmb] at hm0 hs1
        have hmw : w.heap.size ≤ mb := by rw [← hmb]; exact HX.out.size
        have HM0 := hid hm0
        have HX1 := hid (HX.out.trans hE1)
        have HS1 := hid hs1
        have HL1 := hid (HL.out.ext HX1.out)
        have HMW := hid hmw
        clear hall hm0 hE1 hs1 hmw HA
        go_wp2
        clear hW1
        go_loopw [27] (fun i wr2 => ∃ (j q : Nat), j ≤ k ∧ i = .int .i64 j ∧ q ≤ j ∧ Hid (W1.grownBy wr2 (some mb)) ∧ Hid (MapG (strK Tryd.underlying9) wr2 mb q (seenF (l.take j))) ∧ Hid (dupTo (l.take j) (l.drop j) = dupTo [] l)) (fun i _ => k - (intOf i).toNat)
        case atStart => exact ⟨0, 0, by omega, rfl, by omega, hid (World.grownBy.refl _ _), hid (HM0.out.same fun x => by simp [seenF]), hid rfl⟩
        case round =>
          obtain ⟨j, q, hj, rfl, hq, HG, HM, HD⟩ := hrel
          by_cases h2 : j < k
          · obtain ⟨s, hs⟩ : ∃ s, l[j]? = some s := ⟨_, List.getElem?_eq_getElem (by have := HLN.out; omega)⟩
            obtain ⟨b, off, rfl, c0, c1, c2, -, hs2, -, -⟩ := Sl.sym_at (HM0.out.sl HG.out HL1.out) hs
            have HK := hid hs
            have hok : (strK (P := Tryd.prog) (k := 9) Tryd.underlying9).ok s.key := by
              show s.key.length ≤ maxLen
              unfold Sy.key
              rw [Array.length_toList]
              exact hs2
            have HOK := hid hok
            clear hs hok
            obtain ⟨r, hr⟩ : ∃ r, ((l.take j).map Sy.key).contains s.key = r := ⟨_, rfl⟩
            have HLK := hid (seenF_look _ _ r hr)
            have HMA := hid (HM.out.ext ((Ext.refl wr).alloc (.cells #[.string s.name, .int .u32 s.addr, .int .i64 s.kind] 27)))
            cases r with
            | true =>
              obtain rfl : z = 8 := by rw [← HZ.out]; exact symCheck_dup HB.out HALL.out (dup_hit HK.out hr HD.out)
              clear hr
              have HXX := hid ((HX1.out.grown HG.out (fun x hx => by cases hx; exact HMW.out)).alloc (.cells #[.string s.name, .int .u32 s.addr, .int .i64 s.kind] 27))
              go_wp2_with (first
                | (at_lookup; refine wpList_look _ rfl (.tmp 31) (.tmp 33) 48 rfl 4 Tryd.underlying48 (.bool false) (zero_boolS _) (strK Tryd.underlying9) mb q (seenF (l.take j)) rfl HMA.out s.key rfl HOK.out (.bool true) HLK.out ?_)
                | fail)
              go_ret
              exact ⟨rfl, HXX.out⟩
            | false =>
              have HD2 := hid (dup_step HK.out hr HD.out)
              have hsn := take_snoc' HK.out
              have HSN := hid hsn
              clear hr hsn
              go_wp2_with (first
                | (at_lookup; refine wpList_look _ rfl (.tmp 31) (.tmp 33) 48 rfl 4 Tryd.underlying48 (.bool false) (zero_boolS _) (strK Tryd.underlying9) mb q (seenF (l.take j)) rfl HMA.out s.key rfl HOK.out (.bool false) HLK.out ?_)
                | (at_mapUpdate; refine wpList_put _ rfl (.tmp 35) (.tmp 37) (.const (.bool true)) 48 rfl 4 Tryd.underlying48 (strK Tryd.underlying9) mb q (seenF (l.take j)) rfl HMA.out (by unfold maxLen; omega) s.key rfl HOK.out (.bool true) rfl ?_; intro w1 hm1 hg1; have HM1 := hid (MapG.same hm1 (seenF_snoc (l.take j) s)); have HG1 := hid (HG.out.andThen (((Ext.refl wr).alloc (.cells #[.string s.name, .int .u32 s.addr, .int .i64 s.kind] 27)).grownBy (some mb) |>.andThen hg1 (fun j hj => .inr hj)) (fun j hj => .inr hj)); clear hm1 hg1)
                | fail)
              first
                | go_roundw
                | refine ⟨?rel, ?measure⟩
              case rel => exact ⟨j + 1, q + 1, by omega, by go_num, by omega, HG1, hid (by rw [HSN.out]; exact HM1.out), HD2⟩
              case measure => simp [intOf]; omega
          · obtain rfl : j = k := by omega
            have hdu : dupTo [] l = false := by
              have := HD.out
              rw [show j = l.length by have := HLN.out; omega] at this
              exact dup_end this
            have HDU := hid hdu
            have HX2 := hid (HX1.out.grown HG.out (fun x hx => by cases hx; exact HMW.out))
            have HL2 := hid (HM0.out.sl HG.out HL1.out)
            clear hdu HG HM HD
            obtain ⟨W2, hW2⟩ : ∃ W2, W2 = wr := ⟨_, rfl⟩
            obtain ⟨V, rfl⟩ : ∃ V, V = wr := ⟨_, rfl⟩
            clear hW2
            go_wp2
            go_loopw [41] (fun i wr3 => ∃ (q : Nat), q ≤ j ∧ i = .int .i64 q ∧ Hid (Ext V wr3) ∧ Hid ((l.take q).all (fun s => kindB s.kind) = true)) (fun i _ => j - (intOf i).toNat)
            case atStart => exact ⟨0, by omega, rfl, hid (Ext.refl _), hid (by simp)⟩
            case round =>
              obtain ⟨q, hq, rfl, HX3, HA3⟩ := hrel
              by_cases h3 : q < j
              · obtain ⟨s, hs⟩ : ∃ s, l[q]? = some s := ⟨_, List.getElem?_eq_getElem (by have := HLN.out; omega)⟩
                obtain ⟨b, off, rfl, c0, c1, c2, -, hs2, -, -⟩ := Sl.sym_at (HL2.out.ext HX3.out) hs
                have HK := hid hs
                obtain ⟨kd, hkd⟩ : ∃ kd, s.kind = kd := ⟨_, rfl⟩
                rw [hkd] at c2
                clear hs
                by_cases h4 : kd = 1
                · have HA4 := hid (all_step (p := fun s => kindB s.kind) HK.out (by rw [hkd, h4]; rfl) HA3.out)
                  subst h4
                  clear hkd
                  go_wp2
                  first
                    | go_roundw
                    | refine ⟨?rel, ?measure⟩
                  case rel => exact ⟨q + 1, by omega, by go_num, hid (HX3.out.alloc _), HA4⟩
                  case measure => simp [intOf]; omega
                · have e1 : (kd != 1) = true := by simpa using h4
                  by_cases h5 : kd = 2
                  · have HA4 := hid (all_step (p := fun s => kindB s.kind) HK.out (by rw [hkd, h5]; rfl) HA3.out)
                    subst h5
                    clear hkd h4 e1
                    go_wp2
                    first
                      | go_roundw
                      | refine ⟨?rel, ?measure⟩
                    case rel => exact ⟨q + 1, by omega, by go_num, hid (HX3.out.alloc _), HA4⟩
                    case measure => simp [intOf]; omega
                  · have e2 : (kd != 2) = true := by simpa using h5
                    obtain rfl : z = 2 := by
                      rw [← HZ.out]
                      exact symCheck_kind HB.out HALL.out HDU.out HK.out (by rw [hkd, kindB, decide_eq_false h4, decide_eq_false h5]; rfl)
                    clear hkd h4 h5
                    have HXX := hid ((HX2.out.trans HX3.out).alloc (.cells #[.string s.name, .int .u32 s.addr, .int .i64 kd] 27))
                    go_wp2
                    go_ret
                    exact ⟨rfl, HXX.out⟩
              · obtain rfl : q = j := by omega
                have hall := HA3.out
                rw [List.take_of_length_le (by have := HLN.out; omega)] at hall
                obtain rfl : z = 0 := by rw [← HZ.out]; exact symCheck_ok HB.out HALL.out HDU.out hall
                have HXX := hid (HX2.out.trans HX3.out)
                clear hall
                go_wp2
                go_ret
                exact ⟨rfl, HXX.out⟩
end Go.Proofs.YtekilcnkinmakaaDoor
