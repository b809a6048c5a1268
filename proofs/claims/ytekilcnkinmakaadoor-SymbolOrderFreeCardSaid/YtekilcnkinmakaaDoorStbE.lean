/- The library's stable sort at symbols: SortStableFunc at lists of at most 40. -/
import Derived.Test.YtekilcnkinmakaaDoorStbD
namespace Go.Proofs.YtekilcnkinmakaaDoor
open Go.RowKit Go.Deco
set_option linter.unusedSimpArgs false
set_option linter.unusedVariables false

/-- The two blocks, each sorted. -/
def twoB (l : List Sy) : List Sy := stab ltS (l.take 20) ++ stab ltS (l.drop 20)
theorem stab_nil : stab ltS [] = [] := rfl
theorem twoB_small {l : List Sy} (h : l.length ≤ 20) : twoB l = stab ltS l := by
  unfold twoB
  rw [List.take_of_length_le h, List.drop_eq_nil_of_le h, stab_nil, List.append_nil]
/-- The list when q blocks are sorted. -/
def blkS (l : List Sy) (q : Nat) : List Sy := if q = 0 then l else if q = 1 then stab ltS (l.take 20) ++ l.drop 20 else twoB l

set_option maxRecDepth 100000 in
set_option maxHeartbeats 4000000 in
theorem stable_any (wo w : World) (g n c : Nat) (l : List Sy) (hx : Ext wo w) (ho : OwnS symR w wo.heap.size 27 All (.slice (some ⟨g, 0, none⟩) n c) l) (hn : n ≤ 40) :
    Calls Tryd.prog 47 #[.slice (some ⟨g, 0, none⟩) n c, .int .i64 n, .func (.func 37) #[] #[]] w (RowS wo g n c (stab ltS l)) := by
  have hln := ho.len
  have HLN := hid hln
  have HX := hid hx
  have HO := hid ho
  clear hx ho hln
  go_enter Tryd.func47, Tryd.ntmps47
  go_wp2
  go_loopw [7, 8] (fun s7 s8 wr => ∃ (q a b : Nat), q ≤ 2 ∧ a ≤ n ∧ b ≤ 60 ∧ s7 = .int .i64 a ∧ s8 = .int .i64 b ∧ Hid (a = 20 * q ∧ b = 20 * q + 20) ∧ Hid (OwnS symR wr wo.heap.size 27 All (.slice (some ⟨g, 0, none⟩) n c) (blkS l q)) ∧ Hid (Ext wo wr)) (fun _ s8 _ => 100 - (intOf s8).toNat)
  case atStart => exact ⟨0, 0, 20, by omega, by omega, by omega, rfl, rfl, hid ⟨rfl, rfl⟩, HO, HX⟩
  case round =>
    obtain ⟨q, a, b, hq, han, hb60, rfl, rfl, HAB, HE, HXR⟩ := hrel
    by_cases h1 : b ≤ n
    · have hb2 : b + 20 ≤ 60 := by omega
      have HQ : Hid (q + 1 ≤ 2) := hid (by have := HAB.out; omega)
      have HIN : Hid (Calls Tryd.prog 62 #[.slice (some ⟨g, 0, none⟩) n c, .int .i64 a, .int .i64 b, .func (.func 37) #[] #[]] wr (RowS wo g n c (blkS l (q + 1)))) := hid (by
        have hab := HAB.out
        have hll := HLN.out
        have ht : (l.take 20).length = 20 := by rw [List.length_take]; omega
        have hq2 : q = 0 ∨ q = 1 := by omega
        rcases hq2 with rfl | rfl
        · have h := inscmp_any wo wr g n c [] (l.take 20) (l.drop 20) HXR.out (by have h := HE.out; simpa [blkS] using h) (by omega) a b (by simp; omega) (by rw [ht]; simp; omega)
          simpa [blkS] using h
        · have h40 : l.length = 40 := by omega
          have h := inscmp_any wo wr g n c (stab ltS (l.take 20)) (l.drop 20) [] HXR.out (by have h := HE.out; simpa [blkS] using h) (by omega) a b (by rw [stab_len, ht]; omega) (by rw [stab_len, ht, List.length_drop]; omega)
          simpa [blkS, twoB] using h)
      go_wp2_with fail
      refine (HIN.out).mono ?_
      rintro e w5 ⟨rfl, hx5, ho5⟩
      have HX5 := hid hx5
      have HO5 := hid ho5
      clear hx5 ho5
      go_wp2
      first
        | go_roundw
        | refine ⟨?rel, ?measure⟩
      case rel => exact ⟨q + 1, b, b + 20, HQ.out, h1, hb2, rfl, by first | rfl | go_num, hid (by have := HAB.out; omega), HO5, HX5⟩
      case measure => simp [intOf]; omega
    · have HIN : Hid (Calls Tryd.prog 62 #[.slice (some ⟨g, 0, none⟩) n c, .int .i64 a, .int .i64 n, .func (.func 37) #[] #[]] wr (RowS wo g n c (twoB l))) := hid (by
        have hab := HAB.out
        have hll := HLN.out
        have hq2 : q = 0 ∨ q = 1 ∨ q = 2 := by omega
        rcases hq2 with rfl | rfl | rfl
        · have h := inscmp_any wo wr g n c [] l [] HXR.out (by have h := HE.out; simpa [blkS] using h) (by omega) a n (by simp; omega) (by simp; omega)
          rw [twoB_small (by omega)]
          simpa using h
        · have ht : (l.take 20).length = 20 := by rw [List.length_take]; omega
          have h := inscmp_any wo wr g n c (stab ltS (l.take 20)) (l.drop 20) [] HXR.out (by have h := HE.out; simpa [blkS] using h) (by omega) a n (by rw [stab_len, ht]; omega) (by rw [stab_len, ht, List.length_drop]; omega)
          simpa [twoB] using h
        · have h := inscmp_any wo wr g n c (twoB l) [] [] HXR.out (by have h := HE.out; simpa [blkS] using h) (by omega) a n (by unfold twoB; rw [List.length_append, stab_len, stab_len, List.length_take, List.length_drop]; omega) (by unfold twoB; rw [List.length_append, stab_len, stab_len, List.length_take, List.length_drop]; simp; omega)
          simpa [stab_nil] using h)
      go_wp2_with fail
      refine (HIN.out).mono ?_
      rintro e w5 ⟨rfl, hx5, ho5⟩
      have HX5 := hid hx5
      have HO5 := hid ho5
      clear hx5 ho5
      have HSY : Hid (20 < n → ∀ (W : World) (a m b : Nat), a = 0 → m = 20 → b = n → Ext wo W → OwnS symR W wo.heap.size 27 All (.slice (some ⟨g, 0, none⟩) n c) (twoB l) → Calls Tryd.prog 63 #[.slice (some ⟨g, 0, none⟩) n c, .int .i64 a, .int .i64 m, .int .i64 b, .func (.func 37) #[] #[]] W (RowS wo g n c (stab ltS l))) := hid (fun h2 W a m b ha hm hb hx hoW => by
        subst ha hm
        rw [hb]
        have hll := HLN.out
        have ht : (l.take 20).length = 20 := by rw [List.length_take]; omega
        have h := symg_any wo g n c (by omega) (n + 1) W [] (stab ltS (l.take 20)) (stab ltS (l.drop 20)) [] 0 20 n hx (by simpa [twoB] using hoW) (fun e => by have := stab_len ltS (l.take 20); rw [e, ht] at this; cases this) (fun e => by have := stab_len ltS (l.drop 20); rw [e, List.length_drop] at this; simp at this; omega) (stab_ok weakS _).1 (stab_ok weakS _).1 (by rw [stab_len, stab_len, ht, List.length_drop]; omega) rfl (by rw [stab_len, ht]; rfl) (by rw [stab_len, stab_len, ht, List.length_drop]; simp; omega)
        rw [← stab_app weakS, List.take_append_drop] at h
        simpa using h)
      go_wp2
      go_loopw [6] (fun s6 wr => ∃ z : Nat, (z = 20 ∨ z = 40) ∧ s6 = .int .i64 z ∧ Hid (OwnS symR wr wo.heap.size 27 All (.slice (some ⟨g, 0, none⟩) n c) (if z = 20 then twoB l else stab ltS l)) ∧ Hid (Ext wo wr)) (fun s6 _ => 60 - (intOf s6).toNat)
      case atStart => exact ⟨20, .inl rfl, rfl, hid (by rw [if_pos rfl]; exact HO5.out), HX5⟩
      case round =>
        obtain ⟨z, hz, rfl, HE6, HX6⟩ := hrel
        by_cases h2 : z < n
        · obtain rfl : z = 20 := by omega
          have hE7 := HE6.out
          rw [if_pos rfl] at hE7
          have HE7 := hid hE7
          clear hE7 hz
          go_wp2
          go_loopw [7, 8] (fun s7 s8 wr => ∃ (t a2 b2 : Nat), t ≤ 1 ∧ a2 ≤ 40 ∧ b2 ≤ 80 ∧ s7 = .int .i64 a2 ∧ s8 = .int .i64 b2 ∧ Hid (a2 = 40 * t ∧ b2 = 40 * t + 40) ∧ Hid (OwnS symR wr wo.heap.size 27 All (.slice (some ⟨g, 0, none⟩) n c) (if t = 0 then twoB l else stab ltS l)) ∧ Hid (Ext wo wr) ∧ Hid (t = 1 → n = 40)) (fun _ s8 _ => 100 - (intOf s8).toNat)
          case atStart => exact ⟨0, 0, 40, by omega, by omega, by omega, rfl, rfl, hid ⟨rfl, rfl⟩, hid (by rw [if_pos rfl]; exact HE7.out), HX6, hid (fun h => by omega)⟩
          case round =>
            obtain ⟨t, a2, b2, ht, ha2, hb2, rfl, rfl, HAB2, HE8, HX8, HT⟩ := hrel
            by_cases h3 : b2 ≤ n
            · obtain rfl : t = 0 := by have := HAB2.out; omega
              have hE9 := HE8.out
              rw [if_pos rfl] at hE9
              have hb40 : b2 = n ∧ n = 40 := by have := HAB2.out; omega
              obtain ⟨m2, hm2⟩ : ∃ m2, a2 + 20 = m2 := ⟨_, rfl⟩
              have e4 : (a2 : Int) + 20 = (m2 : Int) := by omega
              obtain ⟨b3, hb3⟩ : ∃ b3, b2 + 40 = b3 := ⟨_, rfl⟩
              have e5 : (b2 : Int) + 40 = (b3 : Int) := by omega
              have hb80 : b3 ≤ 80 := by omega
              have hb23 : b2 < b3 := by omega
              have hbl : b2 ≤ 40 := by omega
              have HB3 : Hid (b2 = 40 * 1 ∧ b3 = 40 * 1 + 40) := hid (by omega)
              have HNN := hid hb40.2
              have HS := hid (HSY.out h2 wr a2 m2 b2 (by have := HAB2.out; omega) (by have := HAB2.out; omega) hb40.1 HX8.out hE9)
              clear hE9 hb40 hm2 hb3
              go_wp2_with fail
              refine (HS.out).mono ?_
              rintro e w9 ⟨rfl, hx9, ho9⟩
              have HX9 := hid hx9
              have HO9 := hid ho9
              clear hx9 ho9
              go_wp2
              first
                | go_roundw
                | refine ⟨?rel, ?measure⟩
              case rel => exact ⟨1, b2, b3, by omega, hbl, hb80, rfl, by first | rfl | go_num, HB3, hid (by rw [if_neg (by omega)]; exact HO9.out), HX9, hid (fun _ => HNN.out)⟩
              case measure => simp [intOf]; omega
            · obtain ⟨m2, hm2⟩ : ∃ m2, a2 + 20 = m2 := ⟨_, rfl⟩
              have e4 : (a2 : Int) + 20 = (m2 : Int) := by omega
              by_cases h4 : t = 0
              · subst h4
                have hE9 := HE8.out
                rw [if_pos rfl] at hE9
                have hm20 : m2 < n := by have := HAB2.out; omega
                have HS := hid (HSY.out h2 wr a2 m2 n (by have := HAB2.out; omega) (by have := HAB2.out; omega) rfl HX8.out hE9)
                clear hE9 hm2
                go_wp2_with fail
                refine (HS.out).mono ?_
                rintro e w9 ⟨rfl, hx9, ho9⟩
                have HX9 := hid hx9
                have HO9 := hid ho9
                clear hx9 ho9
                go_wp2
                first
                  | go_roundw
                  | refine ⟨?rel, ?measure⟩
                case rel => exact ⟨40, .inr rfl, by first | rfl | go_num, hid (by rw [if_neg (by omega)]; exact HO9.out), HX9⟩
                case measure => simp [intOf]
              · have hm20 : ¬ m2 < n := by have := HAB2.out; have := HT.out (by omega); omega
                have hE9 := HE8.out
                rw [if_neg h4] at hE9
                have HE9 := hid hE9
                clear hE9 hm2
                go_wp2
                first
                  | go_roundw
                  | refine ⟨?rel, ?measure⟩
                case rel => exact ⟨40, .inr rfl, by first | rfl | go_num, hid (by rw [if_neg (by omega)]; exact HE9.out), HX8⟩
                case measure => simp [intOf]
        · have HF : Hid (OwnS symR wr wo.heap.size 27 All (.slice (some ⟨g, 0, none⟩) n c) (stab ltS l)) := hid (by
            have h := HE6.out
            rcases hz with rfl | rfl
            · rw [if_pos rfl, twoB_small (by have := HLN.out; omega)] at h
              exact h
            · rw [if_neg (by omega)] at h
              exact h)
          go_wp2
          (try simp only [Exit.inBlock, Exit.then])
          refine bodyPost_ret (results_none rfl _ _ _) rfl ?_
          exact ⟨rfl, HX6.out, HF.out⟩
end Go.Proofs.YtekilcnkinmakaaDoor
