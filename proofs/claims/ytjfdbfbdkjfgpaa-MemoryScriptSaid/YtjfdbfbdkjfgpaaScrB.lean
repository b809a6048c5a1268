/- MemoryScript: the walk of the statement. -/
import Derived.Test.YtjfdbfbdkjfgpaaScrA
import Derived.Deep.CutRange
namespace Go.Proofs.Ytjfdbfbdkjfgpaa
open Go.RowKit Go.Deco
set_option linter.unusedSimpArgs false
set_option linter.unusedVariables false

set_option maxRecDepth 100000 in
set_option maxHeartbeats 8000000 in
theorem script_any (w : World) (A : Option Addr) (n c : Nat) (l : List Sec) (hl : Sl secR w All (.slice A n c) l) (B : Option Addr) (m d : Nat) (ops : List Op9) (hops : Sl opR w All (.slice B m d) ops) :
    Calls Try.prog 7 #[.slice A n c, .slice B m d] w (OneBool w true) := by
  have hlm := hops.len
  obtain ⟨hmd, hdm⟩ := hops.cap
  have HLM := hid hlm; clear hlm
  have HL := hid hl; clear hl
  have HO := hid hops; clear hops
  have HE := hid (Ext.refl w)
  go_enter Try.func7, Try.ntmps7
  go_wp2_with fail
  refine (few_any w A n c l (HL.out.ext HE.out)).mono ?_
  rintro e w' ⟨⟨b, rfl⟩, rfl⟩
  cases b
  case' false =>
    go_wp2_with fail
    refine (example_any _).mono ?_
    rintro e w1 ⟨rfl, hx⟩
    have HX := hid (HE.out.trans hx); clear hx
    go_wp2
    go_ret
    exact ⟨rfl, HX.out⟩
  go_wp2_with fail
  refine (fewOps_any w B m d ops HO.out).mono ?_
  rintro e w' ⟨⟨b, rfl, hb⟩, rfl⟩
  cases b
  case' false =>
    clear hb
    go_wp2_with fail
    refine (example_any _).mono ?_
    rintro e wz ⟨rfl, hx⟩
    have HX := hid (HE.out.trans (HE.out.trans hx)); clear hx
    go_wp2
    go_ret
    exact ⟨rfl, HX.out⟩
  have hm40 : m ≤ 40 := hb rfl
  clear hb
  go_wp2_with fail
  refine (new_any w A n c l (HL.out.ext HE.out)).mono ?_
  rintro e w1 ⟨hx1, ⟨h0, rfl⟩ | ⟨h0, mb, bm, rfl, hmb, hbm, hm⟩⟩
  · have H1 := hid (HE.out.trans hx1); clear hx1
    have HN := hid h0
    have h0' : ((secCheck l : Int) != 0) = true := by simpa using h0
    clear h0
    go_wp2_with fail
    refine (new9_any w1 A n c l (HL.out.ext H1.out)).mono ?_
    rintro e w2 ⟨hx2, ⟨-, rfl⟩ | ⟨h0, -⟩⟩
    · have H2 := hid (H1.out.trans hx2); clear hx2
      obtain ⟨er, her⟩ : ∃ er, secCheck l = er := ⟨_, rfl⟩
      rw [her] at h0'
      rw [her]
      have hee : ((er : Int) != (er : Int)) = false := by simp
      clear her HN
      go_wp2_with fail
      obtain ⟨w3, hw3⟩ : ∃ w3, w2.alloc (Obj.cells #[.bool false, .slice none 0 0, .slice none 0 0] 45) = w3 := ⟨_, rfl⟩
      have H3 := hid (show Ext w w3 by rw [← hw3]; exact H2.out.alloc _)
      rw [hw3]
      clear hw3
      go_loop [9] (fun i => i = .int .i64 0) (fun _ => 0)
      case atStart => rfl
      case round =>
        subst hrel
        by_cases hm0 : 0 < m
        · go_wp2_with fail
          refine wp_region_held_drew (S := (fun _ => True)) (by kernel_rfl) trivial (fun hSNa0 => ?_)
          refine wpAnyH_takeL (i := 0) (v := ?Nav0) rfl (by kernel_rfl) (by kernel_rfl) (by kernel_rfl) (fun _ _ _ h => h) (Or.inl ⟨by rfl, ?Nay0⟩) (by assumption) ?Nar0
          case Nay0 => first | (intro w hSw; (try dsimp only at hSw); go_simp; done) | (intro w hSw; (try dsimp only at hSw); go_simp; with_reducible rfl)
          case' Nar0 => try simp only [Act.put, List.setIfInBounds_toArray, List.set_cons_zero, List.set_cons_succ]
          refine wpAnyH_takeL (i := 1) (v := ?Nav1) rfl (by kernel_rfl) (by kernel_rfl) (by kernel_rfl) (fun _ _ _ h => h) (Or.inl ⟨by rfl, ?Nay1⟩) (by assumption) ?Nar1
          case Nay1 => first | (intro w hSw; (try dsimp only at hSw); go_simp; done) | (intro w hSw; (try dsimp only at hSw); go_simp; with_reducible rfl)
          case' Nar1 => try simp only [Act.put, List.setIfInBounds_toArray, List.set_cons_zero, List.set_cons_succ]
          refine wpAnyH_takeL (i := 2) (v := ?Nav2) rfl (by kernel_rfl) (by kernel_rfl) (by kernel_rfl) (fun _ _ _ h => h) (Or.inl ⟨by rfl, ?Nay2⟩) (by assumption) ?Nar2
          case Nay2 => first | (intro w hSw; (try dsimp only at hSw); go_simp; done) | (intro w hSw; (try dsimp only at hSw); go_simp; with_reducible rfl)
          case' Nar2 => try simp only [Act.put, List.setIfInBounds_toArray, List.set_cons_zero, List.set_cons_succ]
          refine wpAnyH_takeL (i := 3) (v := undef) rfl (by kernel_rfl) (by kernel_rfl) (by kernel_rfl) (fun _ _ _ h => h) (Or.inr ⟨by rfl, rfl⟩) (by assumption) ?Nar3
          case' Nar3 => try simp only [Act.put, List.setIfInBounds_toArray, List.set_cons_zero, List.set_cons_succ]
          refine wpAnyH_takeL (i := 5) (v := undef) rfl (by kernel_rfl) (by kernel_rfl) (by kernel_rfl) (fun _ _ _ h => h) (Or.inr ⟨by rfl, rfl⟩) (by assumption) ?Nar5
          case' Nar5 => try simp only [Act.put, List.setIfInBounds_toArray, List.set_cons_zero, List.set_cons_succ]
          refine wpAnyH_ready (rs := [4]) (by kernel_rfl) (by simp) ?_
          refine AllReadyH.consL rfl (fun K hK => ?_) AllReadyH.nil
          refine cast (if_neg (fun h => Bool.noConfusion (show false = true from h))).symm ?_
          refine hK.out _ _ (by assumption) (fun hSNa1 => ?_)
          clear hK K
          try simp only [Act.put, List.setIfInBounds_toArray, List.set_cons_zero, List.set_cons_succ]
          refine wpAnyH_ready (rs := [6]) (by kernel_rfl) (by simp) ?_
          refine AllReadyH.consL rfl (fun K hK => ?_) AllReadyH.nil
          refine cast (if_neg (fun h => Bool.noConfusion (show false = true from h))).symm ?_
          refine hK.out _ _ (by assumption) (fun hSNa2 => ?_)
          clear hK K
          try simp only [Act.put, List.setIfInBounds_toArray, List.set_cons_zero, List.set_cons_succ]
          refine wpAnyH_ready (rs := [7]) (by kernel_rfl) (by simp) ?_
          refine AllReadyH.consL rfl (fun K hK => ?_) AllReadyH.nil
          refine cast (if_neg (fun h => Bool.noConfusion (show false = true from h))).symm ?_
          refine hK.out _ _ (by assumption) (fun hSNa3 => ?_)
          clear hK K
          try simp only [Act.put, List.setIfInBounds_toArray, List.set_cons_zero, List.set_cons_succ]
          refine wpAnyH_takeL (i := 8) (v := ?Nav8) rfl (by kernel_rfl) (by kernel_rfl) (by kernel_rfl) (fun _ _ _ h => h) (Or.inl ⟨by rfl, ?Nay8⟩) (by assumption) ?Nar8
          case Nay8 => first | (intro w hSw; (try dsimp only at hSw); go_simp; done) | (intro w hSw; (try dsimp only at hSw); go_simp; with_reducible rfl)
          case' Nar8 => try simp only [Act.put, List.setIfInBounds_toArray, List.set_cons_zero, List.set_cons_succ]
          refine wpAnyH_takeL (i := 9) (v := ?Nav9) rfl (by kernel_rfl) (by kernel_rfl) (by kernel_rfl) (fun _ _ _ h => h) (Or.inl ⟨by rfl, ?Nay9⟩) (by assumption) ?Nar9
          case Nay9 => first | (intro w hSw; (try dsimp only at hSw); go_simp; done) | (intro w hSw; (try dsimp only at hSw); go_simp; with_reducible rfl)
          case' Nar9 => try simp only [Act.put, List.setIfInBounds_toArray, List.set_cons_zero, List.set_cons_succ]
          refine wpAnyH_ready (rs := [10]) (by kernel_rfl) (by simp) ?_
          refine AllReadyH.consL rfl (fun K hK => ?_) AllReadyH.nil
          go_simp
          go_at_call 11
          refine (example_any _).mono ?_
          rintro e w7 ⟨rfl, hx7⟩
          have HXX := hid hx7.drew_left
          clear hx7
          refine hK.out _ _ trivial (fun hSNa4 => ?_)
          clear hK K
          try simp only [Act.put, List.setIfInBounds_toArray, List.set_cons_zero, List.set_cons_succ]
          refine wpAnyH_takeL (i := 11) (v := ?Nav11) rfl (by kernel_rfl) (by kernel_rfl) (by kernel_rfl) (fun _ _ _ h => h) (Or.inl ⟨by rfl, ?Nay11⟩) (by assumption) ?Nar11
          case Nay11 => first | (intro w hSw; (try dsimp only at hSw); go_simp; done) | (intro w hSw; (try dsimp only at hSw); go_simp; with_reducible rfl)
          case' Nar11 => try simp only [Act.put, List.setIfInBounds_toArray, List.set_cons_zero, List.set_cons_succ]
          refine wpAnyH_takeL (i := 12) (v := ?Nav12) rfl (by kernel_rfl) (by kernel_rfl) (by kernel_rfl) (fun _ _ _ h => h) (Or.inl ⟨by rfl, ?Nay12⟩) (by assumption) ?Nar12
          case Nay12 => first | (intro w hSw; (try dsimp only at hSw); go_simp; done) | (intro w hSw; (try dsimp only at hSw); go_simp; with_reducible rfl)
          case' Nar12 => try simp only [Act.put, List.setIfInBounds_toArray, List.set_cons_zero, List.set_cons_succ]
          refine wpAnyH_done (by kernel_rfl) ?_ _
          go_wp2
          go_ret
          exact ⟨rfl, H3.out.trans HXX.out⟩
        · go_wp2_with fail
          refine wp_region_held_drew (S := (fun _ => True)) (by kernel_rfl) trivial (fun hSNb0 => ?_)
          refine wpAnyH_takeL (i := 0) (v := ?Nbv0) rfl (by kernel_rfl) (by kernel_rfl) (by kernel_rfl) (fun _ _ _ h => h) (Or.inl ⟨by rfl, ?Nby0⟩) (by assumption) ?Nbr0
          case Nby0 => first | (intro w hSw; (try dsimp only at hSw); go_simp; done) | (intro w hSw; (try dsimp only at hSw); go_simp; with_reducible rfl)
          case' Nbr0 => try simp only [Act.put, List.setIfInBounds_toArray, List.set_cons_zero, List.set_cons_succ]
          refine wpAnyH_takeL (i := 1) (v := ?Nbv1) rfl (by kernel_rfl) (by kernel_rfl) (by kernel_rfl) (fun _ _ _ h => h) (Or.inl ⟨by rfl, ?Nby1⟩) (by assumption) ?Nbr1
          case Nby1 => first | (intro w hSw; (try dsimp only at hSw); go_simp; done) | (intro w hSw; (try dsimp only at hSw); go_simp; with_reducible rfl)
          case' Nbr1 => try simp only [Act.put, List.setIfInBounds_toArray, List.set_cons_zero, List.set_cons_succ]
          refine wpAnyH_takeL (i := 2) (v := ?Nbv2) rfl (by kernel_rfl) (by kernel_rfl) (by kernel_rfl) (fun _ _ _ h => h) (Or.inl ⟨by rfl, ?Nby2⟩) (by assumption) ?Nbr2
          case Nby2 => first | (intro w hSw; (try dsimp only at hSw); go_simp; done) | (intro w hSw; (try dsimp only at hSw); go_simp; with_reducible rfl)
          case' Nbr2 => try simp only [Act.put, List.setIfInBounds_toArray, List.set_cons_zero, List.set_cons_succ]
          refine wpAnyH_takeL (i := 3) (v := undef) rfl (by kernel_rfl) (by kernel_rfl) (by kernel_rfl) (fun _ _ _ h => h) (Or.inr ⟨by rfl, rfl⟩) (by assumption) ?Nbr3
          case' Nbr3 => try simp only [Act.put, List.setIfInBounds_toArray, List.set_cons_zero, List.set_cons_succ]
          refine wpAnyH_takeL (i := 5) (v := undef) rfl (by kernel_rfl) (by kernel_rfl) (by kernel_rfl) (fun _ _ _ h => h) (Or.inr ⟨by rfl, rfl⟩) (by assumption) ?Nbr5
          case' Nbr5 => try simp only [Act.put, List.setIfInBounds_toArray, List.set_cons_zero, List.set_cons_succ]
          refine wpAnyH_ready (rs := [4]) (by kernel_rfl) (by simp) ?_
          refine AllReadyH.consL rfl (fun K hK => ?_) AllReadyH.nil
          refine cast (if_neg (fun h => Bool.noConfusion (show false = true from h))).symm ?_
          refine hK.out _ _ (by assumption) (fun hSNb1 => ?_)
          clear hK K
          try simp only [Act.put, List.setIfInBounds_toArray, List.set_cons_zero, List.set_cons_succ]
          refine wpAnyH_ready (rs := [6]) (by kernel_rfl) (by simp) ?_
          refine AllReadyH.consL rfl (fun K hK => ?_) AllReadyH.nil
          refine cast (if_neg (fun h => Bool.noConfusion (show false = true from h))).symm ?_
          refine hK.out _ _ (by assumption) (fun hSNb2 => ?_)
          clear hK K
          try simp only [Act.put, List.setIfInBounds_toArray, List.set_cons_zero, List.set_cons_succ]
          refine wpAnyH_ready (rs := [7]) (by kernel_rfl) (by simp) ?_
          refine AllReadyH.consL rfl (fun K hK => ?_) AllReadyH.nil
          refine cast (if_neg (fun h => Bool.noConfusion (show false = true from h))).symm ?_
          refine hK.out _ _ (by assumption) (fun hSNb3 => ?_)
          clear hK K
          try simp only [Act.put, List.setIfInBounds_toArray, List.set_cons_zero, List.set_cons_succ]
          refine wpAnyH_takeL (i := 8) (v := ?Nbv8) rfl (by kernel_rfl) (by kernel_rfl) (by kernel_rfl) (fun _ _ _ h => h) (Or.inl ⟨by rfl, ?Nby8⟩) (by assumption) ?Nbr8
          case Nby8 => first | (intro w hSw; (try dsimp only at hSw); go_simp; done) | (intro w hSw; (try dsimp only at hSw); go_simp; with_reducible rfl)
          case' Nbr8 => try simp only [Act.put, List.setIfInBounds_toArray, List.set_cons_zero, List.set_cons_succ]
          refine wpAnyH_takeL (i := 9) (v := ?Nbv9) rfl (by kernel_rfl) (by kernel_rfl) (by kernel_rfl) (fun _ _ _ h => h) (Or.inl ⟨by rfl, ?Nby9⟩) (by assumption) ?Nbr9
          case Nby9 => first | (intro w hSw; (try dsimp only at hSw); go_simp; done) | (intro w hSw; (try dsimp only at hSw); go_simp; with_reducible rfl)
          case' Nbr9 => try simp only [Act.put, List.setIfInBounds_toArray, List.set_cons_zero, List.set_cons_succ]
          refine wpAnyH_ready (rs := [10]) (by kernel_rfl) (by simp) ?_
          refine AllReadyH.consL rfl (fun K hK => ?_) AllReadyH.nil
          go_simp
          go_at_call 11
          refine (example_any _).mono ?_
          rintro e w7 ⟨rfl, hx7⟩
          have HXX := hid hx7.drew_left
          clear hx7
          refine hK.out _ _ trivial (fun hSNb4 => ?_)
          clear hK K
          try simp only [Act.put, List.setIfInBounds_toArray, List.set_cons_zero, List.set_cons_succ]
          refine wpAnyH_takeL (i := 11) (v := ?Nbv11) rfl (by kernel_rfl) (by kernel_rfl) (by kernel_rfl) (fun _ _ _ h => h) (Or.inl ⟨by rfl, ?Nby11⟩) (by assumption) ?Nbr11
          case Nby11 => first | (intro w hSw; (try dsimp only at hSw); go_simp; done) | (intro w hSw; (try dsimp only at hSw); go_simp; with_reducible rfl)
          case' Nbr11 => try simp only [Act.put, List.setIfInBounds_toArray, List.set_cons_zero, List.set_cons_succ]
          refine wpAnyH_takeL (i := 12) (v := ?Nbv12) rfl (by kernel_rfl) (by kernel_rfl) (by kernel_rfl) (fun _ _ _ h => h) (Or.inl ⟨by rfl, ?Nby12⟩) (by assumption) ?Nbr12
          case Nby12 => first | (intro w hSw; (try dsimp only at hSw); go_simp; done) | (intro w hSw; (try dsimp only at hSw); go_simp; with_reducible rfl)
          case' Nbr12 => try simp only [Act.put, List.setIfInBounds_toArray, List.set_cons_zero, List.set_cons_succ]
          refine wpAnyH_done (by kernel_rfl) ?_ _
          go_wp2
          go_ret
          exact ⟨rfl, H3.out.trans HXX.out⟩
    · exact absurd h0 HN.out
  · have H1 := hid (HE.out.trans hx1); clear hx1
    have HM := hid hm; clear hm
    have HSC := hid h0; clear h0
    go_wp2_with fail
    refine (new9_any w1 A n c l (HL.out.ext H1.out)).mono ?_
    rintro e w2 ⟨hx2, ⟨h0, -⟩ | ⟨-, LA, lc, rfl, hL⟩⟩
    · exact absurd HSC.out h0
    have hbmlt : bm < w2.heap.size := by
      have h := HM.out
      obtain ⟨_, _, _, _, _, _, ho, _⟩ := h
      exact Nat.lt_of_lt_of_le ho.lt hx2.size
    have HM2 := hid (HM.out.ext hx2)
    have H2 := hid (H1.out.trans hx2)
    have HL2 := hid hL
    clear hx2 hL HM
    go_wp2_with fail
    obtain ⟨w3, hw3⟩ : ∃ w3, w2.alloc (Obj.cells #[.bool true, .slice LA l.length lc, .slice none 0 0] 45) = w3 := ⟨_, rfl⟩
    obtain ⟨g, hg⟩ : ∃ g, w2.heap.size = g := ⟨_, rfl⟩
    have hE3 : Ext w2 w3 := by rw [← hw3]; exact (Ext.refl w2).alloc _
    have hB : Both w2 w3 mb bm g l LA lc none 0 [] (fun _ => none) (4 * 0) := by
      refine ⟨HM2.out.ext hE3, fun b hb _ => hE3.block hb, ?_, ?_, ?_, fun j => ?_, (HL2.out.mono (S' := fun b => b < w2.heap.size) (fun b _ hb => hb.lt)).ext hE3, Sl.nil, CellsOk.start _⟩
      · rw [← hw3, ← hg]; simp
      · rw [← hw3, ← hg]; simp
      · rw [← hw3, ← hg]; simp
      · rw [← hw3, ← hg]; simp
    have H3 := hid (H2.out.trans hE3)
    have HB := hid hB
    rw [hw3, hg]
    have HG := hid hg
    clear hw3 hE3 hB hg
    go_loopw [9] (fun i wr => ∃ (k : Nat) (CA : Option Addr) (cd : Nat) (cs : List (Nat × Nat)) (M : Nat → Option Nat), k ≤ m ∧ i = .int .i64 k ∧ Hid (Both w2 wr mb bm g l LA lc CA cd cs M (4 * k)) ∧ Hid (Ext w wr)) (fun i _ => m - (intOf i).toNat)
    case atStart => exact ⟨0, none, 0, [], fun _ => none, by omega, rfl, HB, H3⟩
    case round =>
      obtain ⟨k, CA, cd, cs, M, hk, rfl, hb, hx⟩ := hrel
      have b0 := hb.out.b0
      have b1 := hb.out.b1
      have b2 := hb.out.b2
      by_cases h1 : k < m
      · obtain ⟨o, ho⟩ : ∃ o, ops[k]? = some o := ⟨_, List.getElem?_eq_getElem (by have := HLM.out; omega)⟩
        obtain ⟨b, off, rfl, s0, s1, s2, s3, hq1, hq2, ha, hxo⟩ := Sl_op_at HO.out ho
        have s0 := hx.out.cell s0
        have s1 := hx.out.cell s1
        have s2 := hx.out.cell s2
        have s3 := hx.out.cell s3
        have hk0 : (0 : Int) ≤ (k : Int) := by omega
        have hk1 : (k : Int) < (m : Int) := by omega
        have hcl : cs.length ≤ 1000 := by have := hb.out.ok.len; omega
        have HOK2 := hid ho
        clear ho
        have hlt := hb.out.glt
        have hbmr : bm < wr.heap.size := by have h := hb.out.mem; obtain ⟨_, _, _, _, _, _, ho, _⟩ := h; exact ho.lt
        obtain ⟨cs', hcs'⟩ : ∃ cs', kindCells (regsOf l) cs o.kind o.width o.addr o.num = cs' := ⟨_, rfl⟩
        obtain ⟨M', hM'⟩ : ∃ M', kindMap (regsOf l) M o.kind o.width o.addr o.num = M' := ⟨_, rfl⟩
        have hok := hb.out.ok.next HSC.out o.kind o.width o.addr o.num
        rw [hcs', hM'] at hok
        have HOK := hid hok
        have call := fun (wy : World) (he : Ext wr wy) => samecall_any wy mb bm l HSC.out M (4 * k) (hb.out.mem.ext he) (by omega) LA l.length lc (hb.out.secs.all.ext he) (fun b => b ≠ g ∧ b < wr.heap.size) CA cs.length cd cs ((hb.out.cells.mono (S' := fun b => b ≠ g ∧ b < wr.heap.size) (fun b h1 h2 => ⟨h1, h2.lt⟩)).ext he) hcl hb.out.ok.look hb.out.ok.asc hb.out.ok.keys o.kind o.width o.addr o.num hq1 hq2 ha hxo
        rw [hcs', hM'] at call
        have CALL := hid call
        clear hcs' hM' hok call
        go_upto_region 10 with (fail)
        go_cut [10, 11] from 41 to 63 (fun v10 v11 wx => v11 = .bool true ∧ ∃ (gn : Nat) (A4 : Option Addr) (d4 : Nat), v10 = .pointer (some ⟨gn, 0, none⟩) ∧ Hid (After wr wx mb bm g gn l LA lc A4 d4 cs' M' (4 * k + 4)))
        case first =>
          refine wp_region_held_drew (S := (fun w' => (w'.cell? ⟨g, 0, none⟩ = some (.bool true) ∧ w'.cell? ⟨g, 1, none⟩ = some (.slice LA l.length lc) ∧ w'.cell? ⟨g, 2, none⟩ = some (.slice CA cs.length cd)) ∧ w'.cell? ⟨b, off + k * 4, none⟩ = some (.int .i64 o.kind) ∧ w'.cell? ⟨b, off + k * 4 + 1, none⟩ = some (.int .i64 o.width) ∧ w'.cell? ⟨b, off + k * 4 + 2, none⟩ = some (.int .u32 o.addr) ∧ w'.cell? ⟨b, off + k * 4 + 3, none⟩ = some (.int .u32 o.num))) (by kernel_rfl) ⟨⟨b0, b1, b2⟩, s0, s1, s2, s3⟩ (fun hSa => ?_)
          refine wpAnyH_takeL (i := 0) (v := ?Xv0) rfl (by kernel_rfl) (by kernel_rfl) (by kernel_rfl) (fun _ _ _ h => h) (Or.inl ⟨by rfl, ?Xy0⟩) (by assumption) ?Xr0
          case Xy0 => first | (intro w hSw; (try dsimp only at hSw); go_simp; done) | (intro w hSw; (try dsimp only at hSw); go_simp; with_reducible rfl)
          case' Xr0 => try simp only [Act.put, List.setIfInBounds_toArray, List.set_cons_zero, List.set_cons_succ]
          refine wpAnyH_takeL (i := 1) (v := ?Xv1) rfl (by kernel_rfl) (by kernel_rfl) (by kernel_rfl) (fun _ _ _ h => h) (Or.inl ⟨by rfl, ?Xy1⟩) (by assumption) ?Xr1
          case Xy1 => first | (intro w hSw; (try dsimp only at hSw); go_simp; done) | (intro w hSw; (try dsimp only at hSw); go_simp; with_reducible rfl)
          case' Xr1 => try simp only [Act.put, List.setIfInBounds_toArray, List.set_cons_zero, List.set_cons_succ]
          refine wpAnyH_takeL (i := 2) (v := ?Xv2) rfl (by kernel_rfl) (by kernel_rfl) (by kernel_rfl) (fun _ _ _ h => h) (Or.inl ⟨by rfl, ?Xy2⟩) (by assumption) ?Xr2
          case Xy2 => first | (intro w hSw; (try dsimp only at hSw); go_simp; done) | (intro w hSw; (try dsimp only at hSw); go_simp; with_reducible rfl)
          case' Xr2 => try simp only [Act.put, List.setIfInBounds_toArray, List.set_cons_zero, List.set_cons_succ]
          refine wpAnyH_takeL (i := 3) (v := ?Xv3) rfl (by kernel_rfl) (by kernel_rfl) (by kernel_rfl) (fun _ _ _ h => h) (Or.inl ⟨by rfl, ?Xy3⟩) (by assumption) ?Xr3
          case Xy3 => first | (intro w hSw; (try dsimp only at hSw); go_simp; done) | (intro w hSw; (try dsimp only at hSw); go_simp; with_reducible rfl)
          case' Xr3 => try simp only [Act.put, List.setIfInBounds_toArray, List.set_cons_zero, List.set_cons_succ]
          refine wpAnyH_takeL (i := 4) (v := ?Xv4) rfl (by kernel_rfl) (by kernel_rfl) (by kernel_rfl) (fun _ _ _ h => h) (Or.inl ⟨by rfl, ?Xy4⟩) (by assumption) ?Xr4
          case Xy4 => first | (intro w hSw; (try dsimp only at hSw); go_simp; done) | (intro w hSw; (try dsimp only at hSw); go_simp; with_reducible rfl)
          case' Xr4 => try simp only [Act.put, List.setIfInBounds_toArray, List.set_cons_zero, List.set_cons_succ]
          refine wpAnyH_takeL (i := 5) (v := ?Xv5) rfl (by kernel_rfl) (by kernel_rfl) (by kernel_rfl) (fun _ _ _ h => h) (Or.inl ⟨by rfl, ?Xy5⟩) (by assumption) ?Xr5
          case Xy5 => first | (intro w hSw; (try dsimp only at hSw); go_simp; done) | (intro w hSw; (try dsimp only at hSw); go_simp; with_reducible rfl)
          case' Xr5 => try simp only [Act.put, List.setIfInBounds_toArray, List.set_cons_zero, List.set_cons_succ]
          refine wpAnyH_ready (rs := [6, 10]) (by kernel_rfl) (by simp) ?_
          refine AllReadyH.consL rfl (fun K hK => ?_) (AllReadyH.consL rfl (fun K hK => ?_) AllReadyH.nil)
          · go_simp
            go_at_call 24
            refine (CALL.out _ ((Ext.refl _).drew)).mono ?_
            rintro e w4 ⟨hgr, hm4, A4, d4, rfl, hc4⟩
            have hgr := grownBy_drew hgr
            have hown := hb.out.mem
            obtain ⟨_, _, DD, -, -, -, hown, -⟩ := hown
            have b0 := cell_map hown hgr b0
            have b1 := cell_map hown hgr b1
            have b2 := cell_map hown hgr b2
            have s0 := cell_map hown hgr s0
            have s1 := cell_map hown hgr s1
            have s2 := cell_map hown hgr s2
            have s3 := cell_map hown hgr s3
            have HGR := hid hgr
            have HM4 := hid hm4
            have HC4 := hid hc4
            have HEX := hid (fun o : Obj => (Ext.refl w4).alloc o)
            clear hgr hm4 hc4 hown
            refine hK.out _ _ ⟨⟨b0, b1, b2⟩, s0, s1, s2, s3⟩ (fun hSb => ?_)
            clear hK K
            try simp only [Act.put, List.setIfInBounds_toArray, List.set_cons_zero, List.set_cons_succ]
            refine wpAnyH_takeL (i := 7) (v := ?Yv7) rfl (by kernel_rfl) (by kernel_rfl) (by kernel_rfl) (fun _ _ _ h => h) (Or.inl ⟨by rfl, ?Yy7⟩) (by assumption) ?Yr7
            case Yy7 => first | (intro w hSw; (try dsimp only at hSw); go_simp; done) | (intro w hSw; (try dsimp only at hSw); go_simp; with_reducible rfl)
            case' Yr7 => try simp only [Act.put, List.setIfInBounds_toArray, List.set_cons_zero, List.set_cons_succ]
            refine wpAnyH_takeL (i := 8) (v := ?Yv8) rfl (by kernel_rfl) (by kernel_rfl) (by kernel_rfl) (fun _ _ _ h => h) (Or.inl ⟨by rfl, ?Yy8⟩) (by assumption) ?Yr8
            case Yy8 => first | (intro w hSw; (try dsimp only at hSw); go_simp; done) | (intro w hSw; (try dsimp only at hSw); go_simp; with_reducible rfl)
            case' Yr8 => try simp only [Act.put, List.setIfInBounds_toArray, List.set_cons_zero, List.set_cons_succ]
            refine wpAnyH_takeL (i := 9) (v := ?Yv9) rfl (by kernel_rfl) (by kernel_rfl) (by kernel_rfl) (fun _ _ _ h => h) (Or.inl ⟨by rfl, ?Yy9⟩) (by assumption) ?Yr9
            case Yy9 => first | (intro w hSw; (try dsimp only at hSw); go_simp; done) | (intro w hSw; (try dsimp only at hSw); go_simp; with_reducible rfl)
            case' Yr9 => try simp only [Act.put, List.setIfInBounds_toArray, List.set_cons_zero, List.set_cons_succ]
            refine wpAnyH_ready (rs := [10]) (by kernel_rfl) (by simp) ?_
            refine AllReadyH.consL rfl (fun K hK => ?_) AllReadyH.nil
            go_simp
            refine hK.out _ _ ⟨⟨(HEX.out _).cell b0, (HEX.out _).cell b1, (HEX.out _).cell b2⟩, (HEX.out _).cell s0, (HEX.out _).cell s1, (HEX.out _).cell s2, (HEX.out _).cell s3⟩ (fun hSY1 => ?_)
            clear hK K
            try simp only [Act.put, List.setIfInBounds_toArray, List.set_cons_zero, List.set_cons_succ]
            refine wpAnyH_ready (rs := [11]) (by kernel_rfl) (by simp) ?_
            refine AllReadyH.consL rfl (fun K hK => ?_) AllReadyH.nil
            go_simp
            refine hK.out _ _ ⟨⟨(HEX.out _).cell b0, (HEX.out _).cell b1, (HEX.out _).cell b2⟩, (HEX.out _).cell s0, (HEX.out _).cell s1, (HEX.out _).cell s2, (HEX.out _).cell s3⟩ (fun hSY2 => ?_)
            clear hK K
            try simp only [Act.put, List.setIfInBounds_toArray, List.set_cons_zero, List.set_cons_succ]
            refine wpAnyH_takeL (i := 12) (v := ?Yv12) rfl (by kernel_rfl) (by kernel_rfl) (by kernel_rfl) (fun _ _ _ h => h) (Or.inl ⟨by rfl, ?Yy12⟩) (by assumption) ?Yr12
            case Yy12 => first | (intro w hSw; (try dsimp only at hSw); go_simp; done) | (intro w hSw; (try dsimp only at hSw); go_simp; with_reducible rfl)
            case' Yr12 => try simp only [Act.put, List.setIfInBounds_toArray, List.set_cons_zero, List.set_cons_succ]
            refine wpAnyH_done (by kernel_rfl) ?_ _
            go_wp2_with fail
            go_meet
            refine ⟨rfl, w4.heap.size, A4, d4, rfl, hid ⟨grown_then HGR.out (HEX.out _), HM4.out.ext (HEX.out _), ((HC4.out.mono (fun b hb _ => by rcases hb with h | h; exact .inl h.1; exact .inr h)).ext (HEX.out _)), by simp, by simp, by simp⟩⟩
          · go_simp
            have hE1 := ((Ext.refl wr).alloc (Obj.cells #[.bool false, .slice none 0 0, .slice none 0 0] 45)).drew
            have z0 : (wr.alloc (Obj.cells #[.bool false, .slice none 0 0, .slice none 0 0] 45)).drew.cell? ⟨wr.heap.size, 0, none⟩ = some (.bool false) := new_at wr [.bool false, .slice none 0 0, .slice none 0 0] _ _ rfl 0 _ rfl
            have z1 : (wr.alloc (Obj.cells #[.bool false, .slice none 0 0, .slice none 0 0] 45)).drew.cell? ⟨wr.heap.size, 1, none⟩ = some (.slice none 0 0) := new_at wr [.bool false, .slice none 0 0, .slice none 0 0] _ _ rfl 1 _ rfl
            have z2 : (wr.alloc (Obj.cells #[.bool false, .slice none 0 0, .slice none 0 0] 45)).drew.cell? ⟨wr.heap.size, 2, none⟩ = some (.slice none 0 0) := new_at wr [.bool false, .slice none 0 0, .slice none 0 0] _ _ rfl 2 _ rfl
            have zf : ∀ j, (wr.alloc (Obj.cells #[.bool false, .slice none 0 0, .slice none 0 0] 45)).drew.frozen? ⟨wr.heap.size, j, none⟩ = false := fun j => new_free wr [.bool false, .slice none 0 0, .slice none 0 0] _ _ rfl j
            obtain ⟨wz, hwz⟩ : ∃ wz, (wr.alloc (Obj.cells #[.bool false, .slice none 0 0, .slice none 0 0] 45)).drew = wz := ⟨_, rfl⟩
            have hszz : wz.heap.size = wr.heap.size + 1 := by rw [← hwz]; simp
            rw [hwz] at hE1 z0 z1 z2 zf
            rw [hwz]
            have b0 := hE1.cell b0
            have b1 := hE1.cell b1
            have b2 := hE1.cell b2
            have s0 := hE1.cell s0
            have s1 := hE1.cell s1
            have s2 := hE1.cell s2
            have s3 := hE1.cell s3
            have HE1 := hid hE1
            have HSZZ := hid hszz
            clear hwz hE1 hszz
            refine hK.out _ _ ⟨⟨b0, b1, b2⟩, s0, s1, s2, s3⟩ (fun hSb => ?_)
            clear hK K
            try simp only [Act.put, List.setIfInBounds_toArray, List.set_cons_zero, List.set_cons_succ]
            refine wpAnyH_ready (rs := [6]) (by kernel_rfl) (by simp) ?_
            refine AllReadyH.consL rfl (fun K hK => ?_) AllReadyH.nil
            go_simp
            go_at_call 24
            refine (CALL.out _ HE1.out).mono ?_
            rintro e w4 ⟨hgr, hm4, A4, d4, rfl, hc4⟩
            have hown := hb.out.mem.ext HE1.out
            obtain ⟨_, _, DD, -, -, -, hown, -⟩ := hown
            have b0 := cell_map hown hgr b0
            have b1 := cell_map hown hgr b1
            have b2 := cell_map hown hgr b2
            have s0 := cell_map hown hgr s0
            have s1 := cell_map hown hgr s1
            have s2 := cell_map hown hgr s2
            have s3 := cell_map hown hgr s3
            have z0 := cell_map hown hgr z0
            have z1 := cell_map hown hgr z1
            have z2 := cell_map hown hgr z2
            have f0 := (World.frozen?_of_block (hgr.block wr.heap.size (by have := HSZZ.out; omega) (by simp; omega))).trans (zf 0)
            have f1 := (World.frozen?_of_block (hgr.block wr.heap.size (by have := HSZZ.out; omega) (by simp; omega))).trans (zf 1)
            have f2 := (World.frozen?_of_block (hgr.block wr.heap.size (by have := HSZZ.out; omega) (by simp; omega))).trans (zf 2)
            have HGR := hid hgr
            have HM4 := hid hm4
            have HC4 := hid hc4
            clear hgr hm4 hc4 hown zf
            refine hK.out _ _ ⟨⟨b0, b1, b2⟩, s0, s1, s2, s3⟩ (fun hSZ1 => ?_)
            clear hK K
            try simp only [Act.put, List.setIfInBounds_toArray, List.set_cons_zero, List.set_cons_succ]
            refine wpAnyH_takeL (i := 7) (v := ?Zv7) rfl (by kernel_rfl) (by kernel_rfl) (by kernel_rfl) (fun _ _ _ h => h) (Or.inl ⟨by rfl, ?Zy7⟩) (by assumption) ?Zr7
            case Zy7 => first | (intro w hSw; (try dsimp only at hSw); go_simp; done) | (intro w hSw; (try dsimp only at hSw); go_simp; with_reducible rfl)
            case' Zr7 => try simp only [Act.put, List.setIfInBounds_toArray, List.set_cons_zero, List.set_cons_succ]
            refine wpAnyH_takeL (i := 8) (v := ?Zv8) rfl (by kernel_rfl) (by kernel_rfl) (by kernel_rfl) (fun _ _ _ h => h) (Or.inl ⟨by rfl, ?Zy8⟩) (by assumption) ?Zr8
            case Zy8 => first | (intro w hSw; (try dsimp only at hSw); go_simp; done) | (intro w hSw; (try dsimp only at hSw); go_simp; with_reducible rfl)
            case' Zr8 => try simp only [Act.put, List.setIfInBounds_toArray, List.set_cons_zero, List.set_cons_succ]
            refine wpAnyH_takeL (i := 9) (v := ?Zv9) rfl (by kernel_rfl) (by kernel_rfl) (by kernel_rfl) (fun _ _ _ h => h) (Or.inl ⟨by rfl, ?Zy9⟩) (by assumption) ?Zr9
            case Zy9 => first | (intro w hSw; (try dsimp only at hSw); go_simp; done) | (intro w hSw; (try dsimp only at hSw); go_simp; with_reducible rfl)
            case' Zr9 => try simp only [Act.put, List.setIfInBounds_toArray, List.set_cons_zero, List.set_cons_succ]
            refine wpAnyH_ready (rs := [11]) (by kernel_rfl) (by simp) ?_
            refine AllReadyH.consL rfl (fun K hK => ?_) AllReadyH.nil
            go_simp
            obtain ⟨W2, hW2⟩ : ∃ W2, ((w4.setCell ⟨wr.heap.size, 0, none⟩ (.bool true)).setCell ⟨wr.heap.size, 1, none⟩ (.slice LA l.length lc)).setCell ⟨wr.heap.size, 2, none⟩ (.slice A4 cs'.length d4) = W2 := ⟨_, rfl⟩
            have hb2 : ∀ b, b ≠ wr.heap.size → W2.heap[b]? = w4.heap[b]? := fun b hb => by rw [← hW2, Below.heap_setCell _ _ _ _ (by simpa using hb), Below.heap_setCell _ _ _ _ (by simpa using hb), Below.heap_setCell _ _ _ _ (by simpa using hb)]
            have hbb : ∀ (p : Addr) (u : Value), wr.cell? p = some u → w4.cell? p = some u → W2.cell? p = some u := fun p u h1 h2 => (World.cell?_of_block (hb2 _ (by have := World.block_lt_of_cell? _ _ h1; omega))).trans h2
            have c0 : W2.cell? ⟨wr.heap.size, 0, none⟩ = some (.bool true) := by rw [← hW2]; simp [World.cell?_setCell_same, World.cell?_setCell_other, z0]
            have c1 : W2.cell? ⟨wr.heap.size, 1, none⟩ = some (.slice LA l.length lc) := by rw [← hW2]; simp [World.cell?_setCell_same, World.cell?_setCell_other, z1]
            have c2 : W2.cell? ⟨wr.heap.size, 2, none⟩ = some (.slice A4 cs'.length d4) := by rw [← hW2]; simp [World.cell?_setCell_same, World.cell?_setCell_other, z2]
            have hgr0 : wr.grownBy w4 (some bm) := grownBy_same (HE1.out.grownBy _) HGR.out
            have hgr2 : wr.grownBy W2 (some bm) := by rw [← hW2]; exact grown_set (grown_set (grown_set hgr0 (Nat.le_refl _) _) (Nat.le_refl _) _) (Nat.le_refl _) _
            have hg2 : w4.grownBy W2 (some wr.heap.size) := by rw [← hW2]; exact grownBy_same (grownBy_same (grownBy_set _ _ _) (grownBy_set _ _ _)) (grownBy_set _ _ _)
            have hm2 : Mem W2 mb bm (regsOf l) M' (4 * k + 4) := MemAt.set hb.out.mem HM4.out (fun b hb hne => hgr2.block b hb (by simpa using hne)) hg2 (by omega)
            have hc2 := (HC4.out.keep (w' := W2) (fun b hb _ => hb2 b (by have := HSZZ.out; omega))).mono (S' := fun b => b ≠ g ∨ wr.heap.size ≤ b) (fun b hb _ => by rcases hb with h | h; exact .inl h.1; exact .inr (by have := HSZZ.out; omega))
            have HAF : Hid (After wr W2 mb bm g wr.heap.size l LA lc A4 d4 cs' M' (4 * k + 4)) := hid ⟨hgr2, hm2, hc2, c0, c1, c2⟩
            rw [hW2]
            have ob := hb.out.b0
            have o0' := hbb _ _ hb.out.b0 b0
            have o1' := hbb _ _ hb.out.b1 b1
            have o2' := hbb _ _ hb.out.b2 b2
            obtain ⟨b9, off9, hA9, u0, u1, u2, u3, -⟩ := Sl_op_at (HO.out.ext hx.out) HOK2.out
            cases hA9
            have p0 := hbb _ _ u0 s0
            have p1 := hbb _ _ u1 s1
            have p2 := hbb _ _ u2 s2
            have p3 := hbb _ _ u3 s3
            clear hW2 hb2 hbb c0 c1 c2 hgr0 hgr2 hg2 hm2 hc2 ob u0 u1 u2 u3
            refine hK.out _ _ ⟨⟨o0', o1', o2'⟩, p0, p1, p2, p3⟩ (fun hSZ2 => ?_)
            clear hK K
            try simp only [Act.put, List.setIfInBounds_toArray, List.set_cons_zero, List.set_cons_succ]
            refine wpAnyH_takeL (i := 12) (v := ?Zv12) rfl (by kernel_rfl) (by kernel_rfl) (by kernel_rfl) (fun _ _ _ h => h) (Or.inl ⟨by rfl, ?Zy12⟩) (by assumption) ?Zr12
            case Zy12 => first | (intro w hSw; (try dsimp only at hSw); go_simp; done) | (intro w hSw; (try dsimp only at hSw); go_simp; with_reducible rfl)
            case' Zr12 => try simp only [Act.put, List.setIfInBounds_toArray, List.set_cons_zero, List.set_cons_succ]
            refine wpAnyH_done (by kernel_rfl) ?_ _
            go_wp2_with fail
            go_meet
            exact ⟨rfl, wr.heap.size, A4, d4, rfl, HAF⟩
        case rest =>
          obtain ⟨rfl, gn, A4, d4, rfl, haf⟩ := hcut
          have e0 := haf.out.c0
          have e1 := haf.out.c1
          have e2 := haf.out.c2
          have hown := hb.out.mem
          obtain ⟨_, _, DD, -, -, -, hown, -⟩ := hown
          have q0 := cell_map hown haf.out.grow b0
          have q1 := cell_map hown haf.out.grow b1
          have q2 := cell_map hown haf.out.grow b2
          have hfz : ∀ j, wc.frozen? ⟨g, j, none⟩ = false := fun j => (World.frozen?_of_block (haf.out.grow.block g hlt (by have := HG.out; simp; omega))).trans (hb.out.fz j)
          have f0 := hfz 0
          have f1 := hfz 1
          have f2 := hfz 2
          have HXC := hid (hx.out.grown haf.out.grow (fun j hj => by cases hj; exact hbm))
          have hgw : w.heap.size ≤ g := by rw [← HG.out]; exact H2.out.size
          clear hown hfz b0 b1 b2 s0 s1 s2 s3
          go_wp2
          go_roundw
          case rel => exact ⟨k + 1, A4, d4, cs', M', by omega, by go_num, hid (hb.out.next HG.out.symm hbmlt HM2.out haf.out.grow haf.out.mem haf.out.cells HOK.out), hid (((HXC.out.setCell hgw _).setCell hgw _).setCell hgw _)⟩
          case measure => simp [intOf]; omega
      · obtain rfl : m = k := by omega
        have hcl : cs.length ≤ 1000 := by have := hb.out.ok.len; omega
        go_wp2_with fail
        refine wp_region_held_drew (S := (fun w' => w'.cell? ⟨g, 0, none⟩ = some (.bool true) ∧ w'.cell? ⟨g, 1, none⟩ = some (.slice LA l.length lc) ∧ w'.cell? ⟨g, 2, none⟩ = some (.slice CA cs.length cd))) (by kernel_rfl) ⟨b0, b1, b2⟩ (fun hSE0 => ?_)
        refine wpAnyH_takeL (i := 0) (v := ?Ev0) rfl (by kernel_rfl) (by kernel_rfl) (by kernel_rfl) (fun _ _ _ h => h) (Or.inl ⟨by rfl, ?Ey0⟩) (by assumption) ?Er0
        case Ey0 => first | (intro w hSw; (try dsimp only at hSw); go_simp; done) | (intro w hSw; (try dsimp only at hSw); go_simp; with_reducible rfl)
        case' Er0 => try simp only [Act.put, List.setIfInBounds_toArray, List.set_cons_zero, List.set_cons_succ]
        refine wpAnyH_takeL (i := 1) (v := ?Ev1) rfl (by kernel_rfl) (by kernel_rfl) (by kernel_rfl) (fun _ _ _ h => h) (Or.inl ⟨by rfl, ?Ey1⟩) (by assumption) ?Er1
        case Ey1 => first | (intro w hSw; (try dsimp only at hSw); go_simp; done) | (intro w hSw; (try dsimp only at hSw); go_simp; with_reducible rfl)
        case' Er1 => try simp only [Act.put, List.setIfInBounds_toArray, List.set_cons_zero, List.set_cons_succ]
        refine wpAnyH_takeL (i := 2) (v := ?Ev2) rfl (by kernel_rfl) (by kernel_rfl) (by kernel_rfl) (fun _ _ _ h => h) (Or.inl ⟨by rfl, ?Ey2⟩) (by assumption) ?Er2
        case Ey2 => first | (intro w hSw; (try dsimp only at hSw); go_simp; done) | (intro w hSw; (try dsimp only at hSw); go_simp; with_reducible rfl)
        case' Er2 => try simp only [Act.put, List.setIfInBounds_toArray, List.set_cons_zero, List.set_cons_succ]
        refine wpAnyH_takeL (i := 3) (v := ?Ev3) rfl (by kernel_rfl) (by kernel_rfl) (by kernel_rfl) (fun _ _ _ h => h) (Or.inl ⟨by rfl, ?Ey3⟩) (by assumption) ?Er3
        case Ey3 => first | (intro w hSw; (try dsimp only at hSw); go_simp; done) | (intro w hSw; (try dsimp only at hSw); go_simp; with_reducible rfl)
        case' Er3 => try simp only [Act.put, List.setIfInBounds_toArray, List.set_cons_zero, List.set_cons_succ]
        refine wpAnyH_takeL (i := 5) (v := ?Ev5) rfl (by kernel_rfl) (by kernel_rfl) (by kernel_rfl) (fun _ _ _ h => h) (Or.inl ⟨by rfl, ?Ey5⟩) (by assumption) ?Er5
        case Ey5 => first | (intro w hSw; (try dsimp only at hSw); go_simp; done) | (intro w hSw; (try dsimp only at hSw); go_simp; with_reducible rfl)
        case' Er5 => try simp only [Act.put, List.setIfInBounds_toArray, List.set_cons_zero, List.set_cons_succ]
        refine wpAnyH_ready (rs := [4]) (by kernel_rfl) (by simp) ?_
        refine AllReadyH.consL rfl (fun K hK => ?_) AllReadyH.nil
        go_simp
        go_at_call 15
        refine (changes_any _ mb bm (4 * m) _ _ (hb.out.mem.ext ((Ext.refl _).drew))).mono ?_
        rintro e w5 ⟨hx5, v, C, rfl, hs1, hp1, hm1⟩
        obtain ⟨cA, dC, rfl, -, -⟩ := hs1.form
        have HX5 := hid hx5.drew_left
        have HS1 := hid hs1
        have HP1 := hid hp1
        have HM1 := hid hm1
        clear hx5 hs1 hp1 hm1
        refine hK.out _ _ ⟨HX5.out.cell b0, HX5.out.cell b1, HX5.out.cell b2⟩ (fun hSE1 => ?_)
        clear hK K
        try simp only [Act.put, List.setIfInBounds_toArray, List.set_cons_zero, List.set_cons_succ]
        refine wpAnyH_ready (rs := [6]) (by kernel_rfl) (by simp) ?_
        refine AllReadyH.consL rfl (fun K hK => ?_) AllReadyH.nil
        go_simp
        go_at_call 25
        refine (changes9_any wr w5 HX5.out LA l.length lc l hb.out.secs.all HSC.out CA cs.length cd cs hb.out.cells.all (by omega)).mono ?_
        rintro e w6 ⟨hx6, A2, c2, rfl, hs2⟩
        have hCL : chgCells (regsOf l) cs = C := (asc_ext HP1.out (chgCells_asc hb.out.ok.asc) (fun a => by rw [HM1.out, ← hb.out.ok.look]; exact (chgCells_mem hb.out.ok.asc hb.out.ok.keys a).symm)).symm
        rw [hCL] at hs2
        rw [hCL]
        have HX6 := hid (HX5.out.trans hx6)
        have HS12 := hid (HS1.out.ext hx6)
        have HS2 := hid hs2
        clear hCL hx6 hs2
        refine hK.out _ _ ⟨HX6.out.cell b0, HX6.out.cell b1, HX6.out.cell b2⟩ (fun hSE2 => ?_)
        clear hK K
        try simp only [Act.put, List.setIfInBounds_toArray, List.set_cons_zero, List.set_cons_succ]
        refine wpAnyH_ready (rs := [7]) (by kernel_rfl) (by simp) ?_
        refine AllReadyH.consL rfl (fun K hK => ?_) AllReadyH.nil
        go_simp
        go_at_call 18
        refine (words_any w6 w6 (Ext.refl _) cA A2 C.length C.length dC c2 C C HS12.out HS2.out).mono ?_
        rintro e w7 ⟨rfl, hx7⟩
        rw [show decide (C = C) = true by simp]
        have HX7 := hid (HX6.out.trans hx7)
        clear hx7
        refine hK.out _ _ ⟨HX7.out.cell b0, HX7.out.cell b1, HX7.out.cell b2⟩ (fun hSE3 => ?_)
        clear hK K
        try simp only [Act.put, List.setIfInBounds_toArray, List.set_cons_zero, List.set_cons_succ]
        refine wpAnyH_takeL (i := 8) (v := ?Ev8) rfl (by kernel_rfl) (by kernel_rfl) (by kernel_rfl) (fun _ _ _ h => h) (Or.inl ⟨by rfl, ?Ey8⟩) (by assumption) ?Er8
        case Ey8 => first | (intro w hSw; (try dsimp only at hSw); go_simp; done) | (intro w hSw; (try dsimp only at hSw); go_simp; with_reducible rfl)
        case' Er8 => try simp only [Act.put, List.setIfInBounds_toArray, List.set_cons_zero, List.set_cons_succ]
        refine wpAnyH_takeL (i := 9) (v := ?Ev9) rfl (by kernel_rfl) (by kernel_rfl) (by kernel_rfl) (fun _ _ _ h => h) (Or.inl ⟨by rfl, ?Ey9⟩) (by assumption) ?Er9
        case Ey9 => first | (intro w hSw; (try dsimp only at hSw); go_simp; done) | (intro w hSw; (try dsimp only at hSw); go_simp; with_reducible rfl)
        case' Er9 => try simp only [Act.put, List.setIfInBounds_toArray, List.set_cons_zero, List.set_cons_succ]
        refine wpAnyH_ready (rs := [10]) (by kernel_rfl) (by simp) ?_
        refine AllReadyH.consL rfl (fun K hK => ?_) AllReadyH.nil
        go_simp
        go_at_call 11
        refine (example_any _).mono ?_
        rintro e w8 ⟨rfl, hx8⟩
        have HX8 := hid (HX7.out.trans hx8)
        clear hx8
        refine hK.out _ _ ⟨HX8.out.cell b0, HX8.out.cell b1, HX8.out.cell b2⟩ (fun hSE4 => ?_)
        clear hK K
        try simp only [Act.put, List.setIfInBounds_toArray, List.set_cons_zero, List.set_cons_succ]
        refine wpAnyH_takeL (i := 11) (v := ?Ev11) rfl (by kernel_rfl) (by kernel_rfl) (by kernel_rfl) (fun _ _ _ h => h) (Or.inl ⟨by rfl, ?Ey11⟩) (by assumption) ?Er11
        case Ey11 => first | (intro w hSw; (try dsimp only at hSw); go_simp; done) | (intro w hSw; (try dsimp only at hSw); go_simp; with_reducible rfl)
        case' Er11 => try simp only [Act.put, List.setIfInBounds_toArray, List.set_cons_zero, List.set_cons_succ]
        refine wpAnyH_takeL (i := 12) (v := ?Ev12) rfl (by kernel_rfl) (by kernel_rfl) (by kernel_rfl) (fun _ _ _ h => h) (Or.inl ⟨by rfl, ?Ey12⟩) (by assumption) ?Er12
        case Ey12 => first | (intro w hSw; (try dsimp only at hSw); go_simp; done) | (intro w hSw; (try dsimp only at hSw); go_simp; with_reducible rfl)
        case' Er12 => try simp only [Act.put, List.setIfInBounds_toArray, List.set_cons_zero, List.set_cons_succ]
        refine wpAnyH_done (by kernel_rfl) ?_ _
        go_wp2
        go_ret
        exact ⟨rfl, hx.out.trans HX8.out⟩
end Go.Proofs.Ytjfdbfbdkjfgpaa
