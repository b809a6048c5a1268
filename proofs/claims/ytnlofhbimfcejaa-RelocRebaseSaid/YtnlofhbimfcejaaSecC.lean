/- The walks of the package 'section': Check. -/
import Derived.Test.YtnlofhbimfcejaaSecB
namespace Go.Proofs.Ytnlofhbimfcejaa
open Go.RowKit Go.Deco

theorem call_sec1 : ∀ args w, (callFunc 46 args).run Try.prog w = .ok (.enter 46 args) w := fun args w => callFunc_enter Try.func46 (by kernel_rfl) rfl args w
theorem call_sec2 : ∀ args w, (callFunc 51 args).run Try.prog w = .ok (.enter 51 args) w := fun args w => callFunc_enter Try.func51 (by kernel_rfl) rfl args w

theorem pred_same {w : World} {b : Nat} {nm : ByteArray} (hc : w.cell? ⟨b, 0, none⟩ = some (.string nm)) : SecPred 46 (.pointer (some ⟨b, 0, none⟩)) w (fun x => x.name.toList == nm.toList) :=
  fun w' x A c he _ _ => same_any w' x A c b nm (he.cell hc)
theorem pred_over {w : World} {b : Nat} {s : Sec} {A' : Option Addr} {c' : Nat} (hm' : s.data.length ≤ 9223372036854775807) (ha' : s.addr < 4294967296)
    (c0 : w.cell? ⟨b, 0, none⟩ = some (.string s.name)) (c1 : w.cell? ⟨b, 1, none⟩ = some (.int .u32 s.addr)) (c2 : w.cell? ⟨b, 2, none⟩ = some (.slice A' s.data.length c')) (c3 : w.cell? ⟨b, 3, none⟩ = some (.bool s.wr)) (c4 : w.cell? ⟨b, 4, none⟩ = some (.bool s.ex)) :
    SecPred 51 (.pointer (some ⟨b, 0, none⟩)) w (fun x => secMeet x s) :=
  fun w' x A c he hm ha => over_any w' x s A A' c c' b hm ha hm' ha' (he.cell c0) (he.cell c1) (he.cell c2) (he.cell c3) (he.cell c4)

set_option maxRecDepth 100000 in
set_option maxHeartbeats 1000000 in
theorem check_any (w : World) (S : Nat → Prop) (A : Option Addr) (n c : Nat) (l : List Sec) (hl : Sl secR w S (.slice A n c) l) :
    Calls Try.prog 28 #[.slice A n c] w fun e w' => e = .returned (.int .i64 (secCheck l : Nat)) ∧ Ext w w' := by
  obtain ⟨hnc, hcm⟩ := hl.cap
  have hln := hl.len
  have HS := hid hl; clear hl
  have HL := hid hln; clear hln
  by_cases h16 : 16 < n
  · go_enter Try.func28, Try.ntmps28
    go_wp2
    go_ret
    exact ⟨ret_int (by rw [secCheck_many (by rw [← HL.out]; exact h16)]; rfl), Ext.refl w⟩
  · have H16 := hid (show ¬ 16 < l.length by rw [← HL.out]; exact h16)
    go_enter Try.func28, Try.ntmps28
    go_wp2
    go_loopw [13] (fun i wr => ∃ k : Nat, k ≤ n ∧ i = .int .i64 k ∧ Hid (Ext w wr) ∧ Hid (firstErr (l.take k) (l.drop k) = firstErr [] l)) (fun i _ => n - (intOf i).toNat)
    case atStart => exact ⟨0, by omega, rfl, hid (Ext.refl w), hid rfl⟩
    case round =>
      obtain ⟨k, hk, rfl, he, ha⟩ := hrel
      by_cases h1 : k < n
      · obtain ⟨s, hs⟩ : ∃ s, l[k]? = some s := ⟨_, List.getElem?_eq_getElem (by have := HL.out; omega)⟩
        have hsl := HS.out.ext he.out
        obtain ⟨b, off, dA, dc, rfl, hd, hdl, hal, hnl, c0, c1, c2, c3, c4⟩ := hsl.sec_at hs
        have HT := hid ((hsl.take (Nat.le_of_lt h1)).ext ((Ext.refl wr).alloc (.cells #[.string s.name, .int .u32 s.addr, .slice dA s.data.length dc, .bool s.wr, .bool s.ex] 46)))
        have HE0 := hid (he.out.trans ((Ext.refl wr).alloc (.cells #[.string s.name, .int .u32 s.addr, .slice dA s.data.length dc, .bool s.wr, .bool s.ex] 46)))
        clear hsl
        have HD := hid hd; clear hd
        have HK := hid hs; clear hs
        go_wp2_with fail
        refine (containsSec_any 46 _ _ _ (pred_same (nm := s.name) (by simp)) _ _ k c (l.take k) HT.out (by omega) call_sec1).mono ?_
        rintro e w1 ⟨rfl, hx⟩
        have HE := hid (HE0.out.trans hx)
        have d0 : w1.cell? ⟨wr.heap.size, 0, none⟩ = some (.string s.name) := hx.cell (by simp)
        have d1 : w1.cell? ⟨wr.heap.size, 1, none⟩ = some (.int .u32 s.addr) := hx.cell (by simp)
        have d2 : w1.cell? ⟨wr.heap.size, 2, none⟩ = some (.slice dA s.data.length dc) := hx.cell (by simp)
        have d3 : w1.cell? ⟨wr.heap.size, 3, none⟩ = some (.bool s.wr) := hx.cell (by simp)
        have d4 : w1.cell? ⟨wr.heap.size, 4, none⟩ = some (.bool s.ex) := hx.cell (by simp)
        obtain ⟨r, hr⟩ : ∃ r, (l.take k).any (fun x => x.name.toList == s.name.toList) = r := ⟨_, rfl⟩
        rw [hr]
        have HR := hid hr; clear hr hx c0 c1 c2 c3 c4 HT HE0
        by_cases e1 : 65536 < s.data.length
        · go_wp2
          go_ret
          exact ⟨ret_int (by rw [firstErr_hit H16.out HK.out (e := 6) (by rw [secErr, if_pos e1]) (by omega) ha.out]; rfl), HE.out⟩
        · go_wp2_with fail
          refine (name_any _ s.name hnl).mono ?_
          rintro e w2 ⟨rfl, hx⟩
          have HE2 := hid (HE.out.trans hx)
          have f0 := hx.cell d0
          have f1 := hx.cell d1
          have f2 := hx.cell d2
          have f3 := hx.cell d3
          have f4 := hx.cell d4
          clear d0 d1 d2 d3 d4 hx
          obtain ⟨q, hq⟩ : ∃ q, nameB s.name = q := ⟨_, rfl⟩
          rw [hq]
          have HQ := hid hq; clear hq
          cases q with
          | false =>
            go_wp2
            go_ret
            exact ⟨ret_int (by rw [firstErr_hit H16.out HK.out (e := 3) (by rw [secErr, if_neg e1, if_pos HQ.out]) (by omega) ha.out]; rfl), HE2.out⟩
          | true =>
            cases r with
            | true =>
              go_wp2
              go_ret
              exact ⟨ret_int (by rw [firstErr_hit H16.out HK.out (e := 8) (by rw [secErr, if_neg e1, if_neg (by simp [HQ.out]), if_pos HR.out]) (by omega) ha.out]; rfl), HE2.out⟩
            | false =>
              have hsum : s.addr + s.data.length < 4295098368 := by omega
              by_cases e2 : 4294967295 < s.addr + s.data.length
              · go_wp2
                go_ret
                exact ⟨ret_int (by rw [firstErr_hit H16.out HK.out (e := 7) (by rw [secErr, if_neg e1, if_neg (by simp [HQ.out]), if_neg (by simp [HR.out]), if_pos (.inl e2)]) (by omega) ha.out]; rfl), HE2.out⟩
              · go_wp2_with fail
                refine (space_any _ s dA dc hdl hal).mono ?_
                rintro e w3 ⟨rfl, hx3⟩
                go_wp2_with fail
                refine (stack_any _).mono ?_
                rintro e w4 ⟨rfl, hx4⟩
                go_wp2_with fail
                refine (meet_any _ _ _ _ _).mono ?_
                rintro e w5 ⟨rfl, hx5⟩
                have HE5 := hid (((HE2.out.trans hx3).trans hx4).trans hx5)
                clear hx3 hx4 hx5
                obtain ⟨m, hm⟩ : ∃ m, meetN s.addr (secTo s) 978944 983040 = m := ⟨_, rfl⟩
                rw [hm]
                have HM := hid hm; clear hm
                cases m with
                | true =>
                  go_wp2
                  go_ret
                  exact ⟨ret_int (by rw [firstErr_hit H16.out HK.out (e := 7) (by rw [secErr, if_neg e1, if_neg (by simp [HQ.out]), if_neg (by simp [HR.out]), if_pos (.inr HM.out)]) (by omega) ha.out]; rfl), HE5.out⟩
                | false =>
                  go_wp2
                  go_roundw
                  case rel =>
                    exact ⟨k + 1, by omega, by go_num, HE5, hid (firstErr_step HK.out (by rw [secErr, if_neg e1, if_neg (by simp [HQ.out]), if_neg (by simp [HR.out]), if_neg (by simp [HM.out]; omega)]) ha.out)⟩
                  case measure => simp [intOf]; omega
      · obtain rfl : k = n := by omega
        have HF := hid (firstErr_end (l := l) (by rw [← HL.out]; exact ha.out))
        clear ha
        go_wp2
        go_loopw [54] (fun i wr => ∃ j : Nat, j ≤ k ∧ i = .int .i64 j ∧ Hid (Ext w wr) ∧ Hid (overl (l.take j) (l.drop j) = overl [] l)) (fun i _ => k - (intOf i).toNat)
        case atStart => exact ⟨0, by omega, rfl, he, hid rfl⟩
        case round =>
          clear he
          obtain ⟨j, hk, rfl, he, ha⟩ := hrel
          by_cases h2 : j < k
          · obtain ⟨s, hs⟩ : ∃ s, l[j]? = some s := ⟨_, List.getElem?_eq_getElem (by have := HL.out; omega)⟩
            have hsl := HS.out.ext he.out
            obtain ⟨b, off, dA, dc, rfl, hd, hdl, hal, hnl, c0, c1, c2, c3, c4⟩ := hsl.sec_at hs
            have HT := hid ((hsl.take (Nat.le_of_lt h2)).ext ((Ext.refl wr).alloc (.cells #[.string s.name, .int .u32 s.addr, .slice dA s.data.length dc, .bool s.wr, .bool s.ex] 46)))
            have HE0 := hid (he.out.trans ((Ext.refl wr).alloc (.cells #[.string s.name, .int .u32 s.addr, .slice dA s.data.length dc, .bool s.wr, .bool s.ex] 46)))
            clear hsl
            have HD := hid hd; clear hd
            have HK := hid hs; clear hs
            go_wp2_with fail
            refine (containsSec_any 51 _ _ _ (pred_over (s := s) (A' := dA) (c' := dc) hdl hal (by simp) (by simp) (by simp) (by simp) (by simp)) _ _ j c (l.take j) HT.out (by omega) call_sec2).mono ?_
            rintro e w1 ⟨rfl, hx⟩
            have HE := hid (HE0.out.trans hx)
            obtain ⟨r, hr⟩ : ∃ r, (l.take j).any (fun x => secMeet x s) = r := ⟨_, rfl⟩
            rw [hr]
            have HR := hid hr; clear hr hx c0 c1 c2 c3 c4 HT HE0
            cases r with
            | true =>
              go_wp2
              go_ret
              exact ⟨ret_int (by rw [overl_hit H16.out HF.out HK.out HR.out ha.out]; rfl), HE.out⟩
            | false =>
              go_wp2
              go_roundw
              case rel => exact ⟨j + 1, by omega, by go_num, HE, hid (overl_step HK.out HR.out ha.out)⟩
              case measure => simp [intOf]; omega
          · obtain rfl : j = k := by omega
            go_wp2
            go_ret
            exact ⟨ret_int (by rw [overl_end H16.out HF.out (by rw [← HL.out]; exact ha.out)]; rfl), he.out⟩
end Go.Proofs.Ytnlofhbimfcejaa
