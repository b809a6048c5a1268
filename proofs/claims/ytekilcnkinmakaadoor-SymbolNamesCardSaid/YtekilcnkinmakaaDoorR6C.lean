/- decompilerref06: Hex, Name, Functions. -/
import Derived.Test.YtekilcnkinmakaaDoorR6B
import Derived.Test.YtekilcnkinmakaaDoorSymF
import Derived.Test.YtekilcnkinmakaaDoorSymG
namespace Go.Proofs.YtekilcnkinmakaaDoor
open Go.RowKit Go.Deco
set_option linter.unusedSimpArgs false
set_option linter.unusedVariables false

theorem hexsl_run (d : Nat) (hd : d < 16) : ∀ w, (Instr.sliceAt 9 (.string { data := #[48, 49, 50, 51, 52, 53, 54, 55, 56, 57, 97, 98, 99, 100, 101, 102] }) (some (.int .u32 d)) (some (.int .u32 ((d : Int) + 1))) none).run Tryd.prog w = .ok (.string (strOf [hexc d])) w := by
  intro w
  obtain rfl | rfl | rfl | rfl | rfl | rfl | rfl | rfl | rfl | rfl | rfl | rfl | rfl | rfl | rfl | rfl : d = 0 ∨ d = 1 ∨ d = 2 ∨ d = 3 ∨ d = 4 ∨ d = 5 ∨ d = 6 ∨ d = 7 ∨ d = 8 ∨ d = 9 ∨ d = 10 ∨ d = 11 ∨ d = 12 ∨ d = 13 ∨ d = 14 ∨ d = 15 := by omega
  all_goals kernel_rfl
def StrSame (w : World) (s : ByteArray) (e : Ending) (w' : World) : Prop := e = .returned (.string s) ∧ w = w'

set_option maxRecDepth 100000 in
set_option maxHeartbeats 1000000 in
theorem hex6_any (w : World) (n : Nat) (hn : n < 4294967296) : Calls Tryd.prog 18 #[.int .u32 n] w (StrSame w (hexS n)) := by
  obtain ⟨L, hL⟩ : ∃ L, hexD n = L := ⟨_, rfl⟩
  unfold hexS
  rw [hL]
  have HL := hid hL
  clear hL
  go_enter Tryd.func18, Tryd.ntmps18
  go_wp2
  go_loop [0, 3] (fun u s => ∃ (x f : Nat) (D : List Nat), u = .int .u32 x ∧ s = .string (strOf D) ∧ x < 4294967296 ∧ f + D.length = 8 ∧ Hid (x < 16 ^ f) ∧ Hid (hexN f x ++ D = L)) (fun u _ => (intOf u).toNat)
  case atStart => exact ⟨n, 8, [], rfl, rfl, hn, rfl, hid (by simpa using hn), hid (by rw [List.append_nil]; exact HL.out)⟩
  case round =>
    obtain ⟨x, f, D, rfl, rfl, hx, hfD, HF, HN⟩ := hrel
    obtain ⟨S, hS⟩ : ∃ S, strOf D = S := ⟨_, rfl⟩
    have hSz : S.size ≤ 8 := by rw [← hS, strOf_size]; omega
    rw [hS]
    have HSS := hid hS
    clear hS
    by_cases h : 16 ≤ x
    · obtain ⟨g, hg, hN, hxg⟩ := hexN_more h HF.out
      obtain ⟨d, hd⟩ : ∃ d, x % 16 = d := ⟨_, rfl⟩
      have hd' : (x : Int) % 16 = (d : Int) := by omega
      have hdl : d < 16 := by omega
      have hdr := hexsl_run d hdl
      rw [hd] at hN
      obtain ⟨P, hP⟩ : ∃ P, strOf [hexc d] = P := ⟨_, rfl⟩
      have hPz : P.size = 1 := by rw [← hP, strOf_size]; rfl
      have k1 : ¬ 9223372036854775807 < P.size + S.size := by omega
      have hap : P ++ S = strOf (hexc d :: D) := by rw [← hP, ← HSS.out, strOf_app]; rfl
      rw [hP] at hdr
      have HAP := hid hap
      have HN2 := hid hN
      have HXG := hid hxg
      have HG := hid hg
      clear hN hxg hg hap hP hPz hd
      go_wp2
      go_round
      case rel =>
        have hg := HG.out
        refine ⟨x / 16, g, hexc d :: D, by first | rfl | go_num, by rw [HAP.out], by omega, by simp; omega, HXG, hid ?_⟩
        have := HN.out
        rw [HN2.out] at this
        simpa using this
      case measure => simp [intOf]; omega
    · have hdl : x < 16 := by omega
      have hdr := hexsl_run x hdl
      obtain ⟨P, hP⟩ : ∃ P, strOf [hexc x] = P := ⟨_, rfl⟩
      have hPz : P.size = 1 := by rw [← hP, strOf_size]; rfl
      rw [hP] at hdr
      have k0 : ¬ 9223372036854775807 < 2 + P.size := by omega
      have k1 : ¬ 9223372036854775807 < ((⟨#[48, 120]⟩ : ByteArray) ++ P).size + S.size := by
        rw [ByteArray.size_append]
        have : (⟨#[48, 120]⟩ : ByteArray).size = 2 := rfl
        omega
      have k2 : ¬ 9223372036854775807 < 2 + P.size + S.size := by omega
      have hz : (⟨#[48, 120]⟩ : ByteArray) ++ P ++ S = strOf (48 :: 120 :: L) := by
        rw [← hP, ← HSS.out, ← HN.out, hexN_one hdl, show (⟨#[48, 120]⟩ : ByteArray) = strOf [48, 120] from rfl, strOf_app, strOf_app]
        rfl
      have HZ := hid hz
      clear hz hP hPz
      go_wp2
      go_ret
      exact ⟨by rw [HZ.out]; rfl, rfl⟩

set_option maxRecDepth 100000 in
set_option maxHeartbeats 2000000 in
theorem name6_any (w : World) (A : Option Addr) (n c : Nat) (l : List Sy) (hl : Sl symR w All (.slice A n c) l) (a : Nat) (ha : a < 4294967296) (hsz : ∀ s ∈ l, s.name.size ≤ 4096) :
    Calls Tryd.prog 17 #[.slice A n c, .int .u32 a] w (StrIs w (nameAt l a)) := by
  obtain ⟨o, ho⟩ : ∃ o, nearSy l a = o := ⟨_, rfl⟩
  obtain ⟨z, hz⟩ : ∃ z, nameAt l a = z := ⟨_, rfl⟩
  rw [hz]
  unfold nameAt at hz
  rw [ho] at hz
  have HL := hid hl
  clear hl
  go_enter Tryd.func17, Tryd.ntmps17
  go_wp2_with fail
  refine (near6_any w A n c l HL.out a ha).mono ?_
  rintro e w1 ⟨hx1, rfl⟩
  rw [ho]
  have HX := hid hx1
  clear hx1
  cases o with
  | none =>
    have HZ := hid hz
    clear hz ho hsz
    simp only [Option.getD_none, Option.isSome_none, syVal, Sy.zero]
    go_wp2_with fail
    refine (hex6_any _ a ha).mono ?_
    rintro e w2 ⟨rfl, rfl⟩
    have HX2 := hid (HX.out.trans ((Ext.refl w1).alloc (.cells #[.string ⟨#[]⟩, .int .u32 0, .int .i64 0] 27)))
    rw [show hexS a = z from HZ.out]
    go_wp2
    go_ret
    exact ⟨rfl, HX2.out⟩
  | some s =>
    obtain ⟨-, -, hm, hle, -, -⟩ := nearSy_some ho
    have hs := hsz s hm
    simp only [Option.getD_some, Option.isSome_some, syVal, distOf]
    obtain ⟨nm, hnm⟩ : ∃ nm, s.name = nm := ⟨_, rfl⟩
    rw [hnm] at hs ⊢
    by_cases h1 : a = s.addr
    · have e0 : a - s.addr = 0 := by omega
      rw [e0]
      have hz2 : z = nm := by rw [← hz]; show (if a = s.addr then _ else _) = _; rw [if_pos h1, hnm]
      subst hz2
      clear hz ho hsz hm hnm hle h1 e0
      go_wp2
      go_ret
      exact ⟨rfl, HX.out.alloc _⟩
    · obtain ⟨d, hd⟩ : ∃ d, a - s.addr = d := ⟨_, rfl⟩
      rw [hd]
      have hd0 : 0 < d := by omega
      have hd1 : d < 4294967296 := by omega
      have hz2 : nm ++ ⟨#[43]⟩ ++ hexS d = z := by rw [← hz]; show _ = (if a = s.addr then _ else _); rw [if_neg h1, hnm, hd]
      have HZ := hid hz2
      have e1 : ((d : Int) == 0) = false := by simp; omega
      have hhs := hexS_size d
      have hh : nm.size + (⟨#[43]⟩ : ByteArray).size + (hexS d).size ≤ 5000 := by
        have : (⟨#[43]⟩ : ByteArray).size = 1 := rfl
        omega
      have hh2 : (nm ++ (⟨#[43]⟩ : ByteArray)).size ≤ 4097 := by
        rw [ByteArray.size_append]
        have : (⟨#[43]⟩ : ByteArray).size = 1 := rfl
        omega
      have k1 : ¬ 9223372036854775807 < nm.size + 1 := by omega
      have k2 : ¬ 9223372036854775807 < nm.size + 1 + (hexS d).size := by omega
      clear hh hh2
      obtain ⟨W2, hW2⟩ : ∃ W2, w1.alloc (.cells #[.string nm, .int .u32 s.addr, .int .i64 s.kind] 27) = W2 := ⟨_, rfl⟩
      have hE2 : Ext w1 W2 := by rw [← hW2]; exact (Ext.refl w1).alloc _
      have c0 : W2.cell? ⟨w1.heap.size, 0, none⟩ = some (.string nm) := by rw [← hW2]; simp [go_sem]
      have HX2 := hid (HX.out.trans hE2)
      clear hz ho hsz hm hnm hle h1 hz2 hE2
      go_wp2_with fail
      clear hW2
      refine wp_region_held_drew (S := (fun w' => w'.cell? ⟨w1.heap.size, 0, none⟩ = some (.string nm) ∧ True)) (by kernel_rfl) ⟨c0, trivial⟩ (fun hSg1q0 => ?_)
      refine wpAnyH_takeL (i := 0) (v := ?g1qv0) rfl (by kernel_rfl) (by kernel_rfl) (by kernel_rfl) (fun _ _ _ h => h) (Or.inl ⟨by rfl, ?g1qy0⟩) (by assumption) ?g1qr0
      case g1qy0 => first | (intro w hSw; (try dsimp only at hSw); go_simp; done) | (intro w hSw; (try dsimp only at hSw); go_simp; with_reducible rfl)
      case' g1qr0 => try simp only [Act.put, List.setIfInBounds_toArray, List.set_cons_zero, List.set_cons_succ]
      refine wpAnyH_takeL (i := 1) (v := ?g1qv1) rfl (by kernel_rfl) (by kernel_rfl) (by kernel_rfl) (fun _ _ _ h => h) (Or.inl ⟨by rfl, ?g1qy1⟩) (by assumption) ?g1qr1
      case g1qy1 => first | (intro w hSw; (try dsimp only at hSw); go_simp; done) | (intro w hSw; (try dsimp only at hSw); go_simp; with_reducible rfl)
      case' g1qr1 => try simp only [Act.put, List.setIfInBounds_toArray, List.set_cons_zero, List.set_cons_succ]
      refine wpAnyH_takeL (i := 2) (v := ?g1qv2) rfl (by kernel_rfl) (by kernel_rfl) (by kernel_rfl) (fun _ _ _ h => h) (Or.inl ⟨by rfl, ?g1qy2⟩) (by assumption) ?g1qr2
      case g1qy2 => first | (intro w hSw; (try dsimp only at hSw); go_simp; done) | (intro w hSw; (try dsimp only at hSw); go_simp; with_reducible rfl)
      case' g1qr2 => try simp only [Act.put, List.setIfInBounds_toArray, List.set_cons_zero, List.set_cons_succ]
      refine wpAnyH_takeL (i := 3) (v := ?g1qv3) rfl (by kernel_rfl) (by kernel_rfl) (by kernel_rfl) (fun _ _ _ h => h) (Or.inl ⟨by rfl, ?g1qy3⟩) (by assumption) ?g1qr3
      case g1qy3 => first | (intro w hSw; (try dsimp only at hSw); go_simp; done) | (intro w hSw; (try dsimp only at hSw); go_simp; with_reducible rfl)
      case' g1qr3 => try simp only [Act.put, List.setIfInBounds_toArray, List.set_cons_zero, List.set_cons_succ]
      refine wpAnyH_ready (rs := [4]) (by kernel_rfl) (by simp) ?_
      refine AllReadyH.consL rfl (fun K hK => ?_) AllReadyH.nil
      go_simp
      go_at_call 18
      refine (hex6_any _ d hd1).mono ?_
      rintro e w3 ⟨rfl, rfl⟩
      refine hK.out _ _ ⟨c0, trivial⟩ (fun hSg1q1 => ?_)
      clear hK K
      try simp only [Act.put, List.setIfInBounds_toArray, List.set_cons_zero, List.set_cons_succ]
      refine wpAnyH_takeL (i := 5) (v := ?g1qv5) rfl (by kernel_rfl) (by kernel_rfl) (by kernel_rfl) (fun _ _ _ h => h) (Or.inl ⟨by rfl, ?g1qy5⟩) (by assumption) ?g1qr5
      case g1qy5 => first | (intro w hSw; (try dsimp only at hSw); go_simp; done) | (intro w hSw; (try dsimp only at hSw); go_simp; with_reducible rfl)
      case' g1qr5 => try simp only [Act.put, List.setIfInBounds_toArray, List.set_cons_zero, List.set_cons_succ]
      refine wpAnyH_takeL (i := 6) (v := ?g1qv6) rfl (by kernel_rfl) (by kernel_rfl) (by kernel_rfl) (fun _ _ _ h => h) (Or.inl ⟨by rfl, ?g1qy6⟩) (by assumption) ?g1qr6
      case g1qy6 => first | (intro w hSw; (try dsimp only at hSw); go_simp; done) | (intro w hSw; (try dsimp only at hSw); go_simp; with_reducible rfl)
      case' g1qr6 => try simp only [Act.put, List.setIfInBounds_toArray, List.set_cons_zero, List.set_cons_succ]
      refine wpAnyH_done (by kernel_rfl) ?_ _
      go_wp2
      go_ret
      have hz := HZ.out
      subst hz
      exact ⟨rfl, HX2.out.drew⟩

set_option maxRecDepth 100000 in
set_option maxHeartbeats 2000000 in
theorem funcs6_any (w : World) (A : Option Addr) (n c : Nat) (l : List Sy) (hl : Sl symR w All (.slice A n c) l) (hn : n ≤ 1000) :
    Calls Tryd.prog 21 #[.slice A n c] w (ListOf w (fnsOf l)) := by
  obtain ⟨L, hL⟩ : ∃ L, fnsOf l = L := ⟨_, rfl⟩
  rw [hL]
  have HL := hid hL
  have HN := hid hl.len
  obtain ⟨hnc, hcm⟩ := hl.cap
  have HS := hid hl
  clear hL hl
  go_enter Tryd.func21, Tryd.ntmps21
  go_wp2
  go_loopw [3, 4] (fun v i wr => ∃ (j : Nat) (A' : Option Addr) (c' : Nat) (M : List Nat), j ≤ n ∧ i = .int .i64 j ∧ v = .slice A' M.length c' ∧ M.length ≤ j ∧ Hid (Sl u32R wr All (.slice A' M.length c') M) ∧ Hid (Ext w wr) ∧ Hid (M = asc (fnAddrs (l.take j)))) (fun _ i _ => n - (intOf i).toNat)
  case atStart => exact ⟨0, none, 0, [], by omega, rfl, rfl, by simp, hid Sl.nil, hid (Ext.refl _), hid rfl⟩
  case round =>
    obtain ⟨j, A', c', M, hj, rfl, rfl, hMl, HO, HX, HM⟩ := hrel
    by_cases h1 : j < n
    · obtain ⟨s, hs⟩ : ∃ s, l[j]? = some s := ⟨_, List.getElem?_eq_getElem (by have := HN.out; omega)⟩
      obtain ⟨b, off, rfl, c0, c1, c2, ha32, -, -, -⟩ := Sl.sym_at (HS.out.ext HX.out) hs
      have hst := fnAddrs_step hs
      clear hs
      by_cases h2 : s.kind = 1
      · rw [if_pos h2] at hst
        have HST : Hid (asc (fnAddrs (l.take (j + 1))) = insOf M s.addr) := hid (by rw [hst, asc_snoc, HM.out])
        have h2' : (s.kind == 1) = true := by simpa using h2
        have HI := hid (insOf_length M s.addr)
        clear hst h2
        go_wp2_with fail
        refine (insert_any wr wr (Ext.refl _) A' M.length c' M HO.out (by omega) s.addr ha32).mono ?_
        rintro e w2 ⟨hx2, A2, c2', rfl, hs2⟩
        have HX2 := hid (HX.out.trans hx2)
        have HS2 := hid hs2
        obtain ⟨M2, hM2⟩ : ∃ M2, insOf M s.addr = M2 := ⟨_, rfl⟩
        have HI2 : Hid (M2.length ≤ M.length + 1) := by rw [← hM2]; exact HI
        rw [hM2] at HST HS2 ⊢
        clear hx2 hs2 HI hM2
        go_wp2
        first
          | go_roundw
          | refine ⟨?rel, ?measure⟩
        case rel => exact ⟨j + 1, A2, c2', M2, by omega, by go_num, rfl, by have := HI2.out; omega, HS2, HX2, hid HST.out.symm⟩
        case measure => simp [intOf]; omega
      · rw [if_neg h2] at hst
        have HST := hid hst
        have h2' : (s.kind == 1) = false := by simpa using h2
        clear hst h2
        go_wp2
        first
          | go_roundw
          | refine ⟨?rel, ?measure⟩
        case rel => exact ⟨j + 1, A', c', M, by omega, by go_num, rfl, by omega, HO, HX, hid (by rw [HST.out, HM.out])⟩
        case measure => simp [intOf]; omega
    · obtain rfl : j = n := by omega
      have he : M = L := by
        rw [HM.out, List.take_of_length_le (by have := HN.out; omega)]
        exact HL.out
      subst he
      go_wp2
      go_ret
      exact ⟨HX.out, A', c', rfl, HO.out⟩
end Go.Proofs.YtekilcnkinmakaaDoor
