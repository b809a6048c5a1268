/- The reference's walk over one section: one. -/
import Derived.Test.YtnlofhbimfcejaaR5A
import Derived.BigQuiet
namespace Go.Proofs.Ytnlofhbimfcejaa
open Go.RowKit Go.Deco
set_option linter.unusedSimpArgs false
set_option linter.unusedVariables false

theorem secErr_range {pre : List Sec} {s : Sec} (h1 : ¬ 65536 < s.data.length) (h2 : nameB s.name = true) (h3 : pre.any (fun x => x.name.toList == s.name.toList) = false) :
    secErr pre s = if 4294967295 < s.addr + s.data.length then 7 else if 0 < s.data.length ∧ s.addr < 983040 ∧ 978944 < s.addr + s.data.length then 7 else 0 := by
  rw [secErr, if_neg h1, if_neg (by simp [h2]), h3]
  simp only [Bool.false_eq_true, if_false]
  by_cases h4 : 4294967295 < s.addr + s.data.length
  · rw [if_pos (.inl h4), if_pos h4]
  · rw [if_neg h4]
    have e : meetN s.addr (secTo s) 978944 983040 = decide (0 < s.data.length ∧ s.addr < 983040 ∧ 978944 < s.addr + s.data.length) := by
      unfold meetN secTo
      rw [decide_eq_decide]
      omega
    rw [e]
    by_cases h5 : 0 < s.data.length ∧ s.addr < 983040 ∧ 978944 < s.addr + s.data.length
    · rw [if_pos h5, if_pos (.inr (by simpa using h5))]
    · rw [if_neg h5, if_neg]
      rintro (h | h)
      · exact h4 h
      · exact h5 (by simpa using h)

set_option maxRecDepth 100000 in
set_option maxHeartbeats 2000000 in
theorem one5_any (wo w : World) (ho : Ext wo w) (A : Option Addr) (n c : Nat) (l : List Sec) (hl : Sl secR wo All (.slice A n c) l) (i : Nat) (s : Sec) (hi : l[i]? = some s) :
    Calls Try.prog 54 #[.slice A n c, .int .i64 i] w (IntIs w (secErr (l.take i) s)) := by
  have hln := hl.len
  obtain ⟨hnc, hcm⟩ := hl.cap
  have hin := (List.getElem?_eq_some_iff.1 hi).1
  obtain ⟨z, hz⟩ : ∃ z, secErr (l.take i) s = z := ⟨_, rfl⟩
  rw [hz]
  have HZ := hid hz; clear hz
  have HS := hid hl
  obtain ⟨b, off, dA, dc, rfl, hd, hdl, hal, hnl, c0, c1, c2, c3, c4⟩ := hl.sec_at hi
  obtain ⟨hdc, hdm⟩ := hd.cap
  have c0 := ho.cell c0
  have c1 := ho.cell c1
  have c2 := ho.cell c2
  have c3 := ho.cell c3
  have c4 := ho.cell c4
  rw [← hln] at hin
  have HLN := hid hln
  have HO := hid ho
  have HI := hid hi
  clear hl hd hln ho hi
  by_cases h65 : 65536 < s.data.length
  · have e : z = 6 := by rw [← HZ.out, secErr, if_pos h65]
    subst e
    go_enter Try.func54, Try.ntmps54
    go_wp2
    go_ret
    exact ⟨rfl, (Ext.refl w).alloc _⟩
  have h65' : s.data.length ≤ 65536 := by omega
  go_enter Try.func54, Try.ntmps54
  go_wp2_with fail
  obtain ⟨w0, hw0⟩ : ∃ w0, w.alloc (Obj.cells #[.string s.name, .int .u32 s.addr, .slice dA s.data.length dc, .bool s.wr, .bool s.ex] 46) = w0 := ⟨_, rfl⟩
  rw [hw0]
  have hE : Ext w w0 := by rw [← hw0]; exact (Ext.refl w).alloc _
  have q0 : w0.cell? ⟨w.heap.size, 0, none⟩ = some (.string s.name) := by rw [← hw0]; simp
  have q1 : w0.cell? ⟨w.heap.size, 1, none⟩ = some (.int .u32 s.addr) := by rw [← hw0]; simp
  have q2 : w0.cell? ⟨w.heap.size, 2, none⟩ = some (.slice dA s.data.length dc) := by rw [← hw0]; simp
  have q3 : w0.cell? ⟨w.heap.size, 3, none⟩ = some (.bool s.wr) := by rw [← hw0]; simp
  have q4 : w0.cell? ⟨w.heap.size, 4, none⟩ = some (.bool s.ex) := by rw [← hw0]; simp
  have HE := hid hE
  clear hw0 hE c0 c1 c2 c3 c4
  refine (name5_any w0 s.name hnl).mono ?_
  rintro e w' ⟨rfl, rfl⟩
  obtain ⟨y, hy⟩ : ∃ y, nameB s.name = y := ⟨_, rfl⟩
  rw [hy]
  have HY := hid hy
  clear hy
  cases y with
  | false =>
    have e : z = 3 := by rw [← HZ.out, secErr, if_neg h65, if_pos HY.out]
    subst e
    go_wp2
    go_ret
    exact ⟨rfl, HE.out⟩
  | true =>
    have HQ := hid (And.intro q0 (And.intro q1 (And.intro q2 (And.intro q3 q4))))
    clear q1 q2 q3 q4
    go_wp2
    go_loopw [6] (fun v wr => ∃ k : Nat, k ≤ i ∧ v = .int .i64 k ∧ Hid (Ext w0 wr) ∧ Hid ((l.take k).any (fun x => x.name.toList == s.name.toList) = false)) (fun v _ => i - (intOf v).toNat)
    case atStart => exact ⟨0, by omega, rfl, hid (Ext.refl _), hid (by simp)⟩
    case round =>
      obtain ⟨k, hk, rfl, hx, hany⟩ := hrel
      have q0 := hx.out.cell HQ.out.1
      by_cases hki : k < i
      · obtain ⟨x, hxk⟩ : ∃ x, l[k]? = some x := ⟨_, List.getElem?_eq_getElem (by have := HLN.out; omega)⟩
        obtain ⟨b', off', -, -, hA, -, -, -, -, x0, -⟩ := HS.out.sec_at hxk
        cases hA
        have x0 := (HO.out.trans (HE.out.trans hx.out)).cell x0
        have hk0 : (0 : Int) ≤ (k : Int) := by omega
        have hk1 : (k : Int) < (n : Int) := by omega
        have HXK := hid hxk
        clear hxk
        by_cases hnm : (x.name.toList == s.name.toList) = true
        · have e : z = 8 := by
            have hm : x ∈ l.take i := List.mem_of_getElem? (i := k) (by rw [List.getElem?_take, if_pos hki]; exact HXK.out)
            have h3 : (l.take i).any (fun x => x.name.toList == s.name.toList) = true := List.any_eq_true.2 ⟨x, hm, hnm⟩
            rw [← HZ.out, secErr, if_neg h65, if_neg (by simp [HY.out]), if_pos h3]
          subst e
          go_wp2_with fail
          go_quiet (fail)
          go_wp2
          go_ret
          exact ⟨rfl, (HE.out.trans hx.out).drewN _⟩
        · have hnm : (x.name.toList == s.name.toList) = false := by simpa using hnm
          go_wp2_with fail
          go_quiet (fail)
          go_wp2
          go_roundw
          case rel => exact ⟨k + 1, by omega, by go_num, hid (hx.out.drewN _), hid (by rw [take_snoc' HXK.out, List.any_append, hany.out]; simpa using hnm)⟩
          case measure => simp [intOf]; omega
      · obtain rfl : k = i := by omega
        have hz := secErr_range h65 HY.out hany.out
        rw [HZ.out] at hz
        obtain ⟨t0, t1, t2, t3, t4⟩ := HQ.out
        have q1 := hx.out.cell t1
        have q2 := hx.out.cell t2
        have q3 := hx.out.cell t3
        have q4 := hx.out.cell t4
        clear t0 t1 t2 t3 t4
        have HX := hid (HE.out.trans hx.out)
        by_cases h4 : 4294967295 < s.addr + s.data.length
        · rw [if_pos h4] at hz
          subst hz
          go_wp2
          go_ret
          exact ⟨rfl, HX.out⟩
        · rw [if_neg h4] at hz
          have e2 : secTo s = s.addr + s.data.length := by unfold secTo; omega
          have HT := hid e2
          clear e2
          have i4 : decide ((4294967295 : Int) < (s.addr : Int) + (s.data.length : Int)) = false := by simp; omega
          clear h4
          by_cases h5 : 0 < s.data.length
          · by_cases h6 : s.addr < 983040
            · have i6 : decide ((s.addr : Int) < 983040) = true := by simp; omega
              by_cases h7 : 978944 < s.addr + s.data.length
              · rw [if_pos ⟨h5, h6, h7⟩] at hz
                subst hz
                have i7 : decide ((978944 : Int) < (s.addr : Int) + (s.data.length : Int)) = true := by simp; omega
                clear h6 h7
                go_wp2_with fail
                refine (end5_any _ s dA dc (by omega) hal).mono ?_
                rintro e w3 ⟨rfl, hx3⟩
                have HX3 := hid (HX.out.trans hx3); clear hx3
                rw [HT.out]
                go_wp2
                go_ret
                exact ⟨rfl, HX3.out⟩
              · rw [if_neg (fun h => h7 h.2.2)] at hz
                subst hz
                have i7 : decide ((978944 : Int) < (s.addr : Int) + (s.data.length : Int)) = false := by simp; omega
                clear h6 h7
                go_wp2_with fail
                refine (end5_any _ s dA dc (by omega) hal).mono ?_
                rintro e w3 ⟨rfl, hx3⟩
                have HX3 := hid (HX.out.trans hx3); clear hx3
                rw [HT.out]
                go_wp2
                go_ret
                exact ⟨rfl, HX3.out⟩
            · rw [if_neg (fun h => h6 h.2.1)] at hz
              subst hz
              have i6 : decide ((s.addr : Int) < 983040) = false := by simp; omega
              clear h6
              go_wp2
              go_ret
              exact ⟨rfl, HX.out⟩
          · rw [if_neg (fun h => h5 h.1)] at hz
            subst hz
            go_wp2
            go_ret
            exact ⟨rfl, HX.out⟩
end Go.Proofs.Ytnlofhbimfcejaa
