/- decompilerref18: the blocks of a function. -/
import Derived.Test.YtnlmhnbogleijaaGreatDoorFbem
import Derived.Test.YtnlmhnbogleijaaGreatDoorFblm
import Derived.Test.YtnlmhnbogleijaaGreatDoorInsSm
import Derived.Test.YtnlmhnbogleijaaGreatDoorReg
import Derived.Test.YtnlmhnbogleijaaGreatDoorSplit
namespace Go.Proofs.YtnlmhnbogleijaaGreatDoor
open Go.RowKit Go.Deco
set_option linter.unusedSimpArgs false
set_option linter.unusedVariables false

/-- How many blocks the work list has not come to. -/
def unW (b : List Bs) (W : List Nat) (i : Nat) : Nat := unseen (b.map Bs.addr) (fun x => (W.take i).contains x)
theorem unW_skip {b : List Bs} {W : List Nat} {i x : Nat} (hx : W[i]? = some x) : unW b W (i + 1) ≤ unW b W i := by
  unfold unW unseen
  have hs : ((b.map Bs.addr).filter fun x => !(W.take (i + 1)).contains x).Sublist ((b.map Bs.addr).filter fun x => !(W.take i).contains x) := by
    have e : ((b.map Bs.addr).filter fun x => !(W.take (i + 1)).contains x) = ((b.map Bs.addr).filter fun x => !(W.take i).contains x).filter fun x => !(W.take (i + 1)).contains x := by
      rw [List.filter_filter]
      congr 1
      funext y
      cases h1 : (W.take (i + 1)).contains y with
      | true => rfl
      | false =>
        have h2 : (W.take i).contains y = false := by
          cases h3 : (W.take i).contains y with
          | false => rfl
          | true =>
            rw [List.contains_iff_mem] at h3
            have h4 := (take_mem_snoc hx).2 (.inl h3)
            rw [← List.contains_iff_mem, h1] at h4
            cases h4
        have h5 : y ∉ W.take i := fun h => by rw [← List.contains_iff_mem, h2] at h; cases h
        simp [h5]
    rw [e]
    exact List.filter_sublist
  exact hs.length_le
theorem unW_add {b : List Bs} {W s : List Nat} {i x : Nat} (hx : W[i]? = some x) (hb : isB b x = true) (hn : (W.take i).contains x = false) : unW b (W ++ s) (i + 1) < unW b W i := by
  have hl : i < W.length := (List.getElem?_eq_some_iff.1 hx).1
  have ht : (W ++ s).take (i + 1) = W.take (i + 1) := List.take_append_of_le_length (by omega)
  have h := unseen_add (U := b.map Bs.addr) (S := fun x => (W.take i).contains x) (a := x) (isB_addr hb) hn
  have e : unW b (W ++ s) (i + 1) = unseen (b.map Bs.addr) (addB (fun x => (W.take i).contains x) x) := by
    unfold unW
    rw [ht]
    congr 1
    funext y
    rw [Bool.eq_iff_iff, List.contains_iff_mem, take_mem_snoc hx]
    simp [addB, List.contains_iff_mem]
  rw [e]
  exact h
theorem unW_start (b : List Bs) (a : Nat) : unW b [a] 0 = b.length := by
  unfold unW unseen
  rw [List.filter_eq_self.2 (fun x _ => by simp), List.length_map]

def BlocksPost (w : World) (b : List Bs) (a : Nat) (e : Ending) (w' : World) : Prop :=
  Ext w w' ∧ ∃ A c O, e = .returned (.slice A O.length c) ∧ Sl u32R w' (fun d => w.heap.size ≤ d) (.slice A O.length c) O ∧ O.Pairwise (· < ·) ∧ (∀ x, x ∈ O ↔ ReachB b a x) ∧ O.length ≤ b.length

set_option maxRecDepth 100000 in
set_option maxHeartbeats 4000000 in
theorem rblocks18_any (w : World) (A : Option Addr) (n c : Nat) (b : List Bs) (hl : Sl bsR w All (.slice A n c) b) (hn : n ≤ 20) (hs : ∀ s ∈ b, s.succ.length ≤ 12) (a : Nat) (ha : a < 4294967296) :
    Calls Tryz.prog 43 #[.slice A n c, .int .u32 a] w (BlocksPost w b a) := by
  have hln := hl.len
  have hcb := hl.cap
  obtain ⟨k0, hkf, hk0, hk1, hk2⟩ := info_parts info_w32
  have HKF := hid hkf
  have HK0 := hid hk0
  have HK1 := hid hk1
  have HK2 := hid hk2
  have HLN := hid hln
  have HB := hid (hl.mono (S' := fun d => d < w.heap.size) fun d _ h => h.lt)
  have HSU := hid hs
  have ho1 : OwnS u32R (w.alloc (.cells #[.int .u32 a] 38)) w.heap.size 38 All (.slice (some ⟨w.heap.size, 0, none⟩) 1 1) [a] :=
    ⟨[.int .u32 a], ⟨rfl, .inr ⟨w.heap.size, 1, #[.int .u32 a], rfl, Nat.le_refl _, heap_alloc_new w _, by simp, by simp [maxLen], rfl, rfl⟩⟩, chunks_num.2 ⟨rfl, by simpa using ha⟩⟩
  have HO1 := hid ho1
  have HX1 := hid ((Ext.refl w).alloc (.cells #[.int .u32 a] 38))
  have HUN : Hid ([a].length + 12 * unW b [a] 0 ≤ 241) := hid (by rw [unW_start, ← hln]; simp; omega)
  clear hl hln hs hkf hk0 hk1 hk2 ho1
  go_enter Tryz.func43, Tryz.ntmps43
  go_wp2
  go_loopw [5, 6, 7] (fun s5 s6 s7 wr => ∃ (j m : Nat) (A1 : Option Addr) (c1 : Nat) (O : List Nat) (A2 : Option Addr) (c2 : Nat) (Wk : List Nat), j ≤ m ∧ m ≤ 241 ∧ s7 = .int .i64 j ∧ s5 = .slice A1 O.length c1 ∧ s6 = .slice A2 m c2 ∧ Hid (Wk.length = m) ∧ Hid (WkB b a Wk j O) ∧ Hid (Wk.length + 12 * unW b Wk j ≤ 241) ∧
    Hid (OwnS u32R wr w.heap.size 38 All (.slice A2 m c2) Wk) ∧ Hid (Sl u32R wr (fun d => w.heap.size ≤ d ∧ some d ≠ (Value.slice A2 m c2).ownBlock) (.slice A1 O.length c1) O) ∧ Hid (Ext w wr)) (fun _ _ s7 _ => 241 - (intOf s7).toNat)
  case atStart => exact ⟨0, 1, none, 0, [], _, 1, [a], by omega, by omega, rfl, rfl, rfl, hid rfl, hid (WkB.start b a), HUN, HO1, hid Sl.nil, HX1⟩
  case round =>
    obtain ⟨j, m, A1, c1, O, A2, c2, Wk, hjm, hm, rfl, rfl, rfl, HWL, HWK, HUM, HO, HS, HX⟩ := hrel
    by_cases h1 : j < m
    · obtain ⟨x, hx⟩ : ∃ x, Wk[j]? = some x := ⟨_, List.getElem?_eq_getElem (by have := HWL.out; omega)⟩
      obtain ⟨bg, og, rfl, cx, hx32⟩ := Sl.num_at HO.out.sl hx
      have hcc := HO.out.sl.cap
      have HBR := hid (HB.out.ext HX.out)
      have HXJ := hid hx
      have hOl := HWK.out.len
      rw [← HLN.out] at hOl
      obtain ⟨NO, hNO⟩ : ∃ NO, O.length = NO := ⟨_, rfl⟩
      rw [hNO] at hOl HS ⊢
      have HNO := hid hNO
      obtain ⟨o, ho⟩ : ∃ o, blkA b x = o := ⟨_, rfl⟩
      clear hx hNO
      cases o with
      | none =>
        have HNN := hid ho
        have b1 : decide ((-1 : Int) < 0) = true := rfl
        clear ho
        go_wp2_with fail
        refine (blkof_none wr A n c b (HBR.out.mono fun _ _ _ => trivial) x HNN.out).mono ?_
        rintro e w5 ⟨rfl, rfl⟩
        go_upto_region 7 with fail
        refine wp_region_held_drew (S := (fun w' => True)) (by kernel_rfl) trivial (fun hSN0 => ?_)
        refine wpAnyH_takeL (i := 0) (v := ?Nv0) rfl (by kernel_rfl) (by kernel_rfl) (by kernel_rfl) (fun _ _ _ h => h) (Or.inl ⟨by rfl, ?Ny0⟩) (by assumption) ?Nr0
        case Ny0 => first | (intro w hSw; (try dsimp only at hSw); go_simp; done) | (intro w hSw; (try dsimp only at hSw); go_simp; with_reducible rfl)
        case' Nr0 => try simp only [Act.put, List.setIfInBounds_toArray, List.set_cons_zero, List.set_cons_succ]
        refine wpAnyH_takeL (i := 1) (v := ?Nv1) rfl (by kernel_rfl) (by kernel_rfl) (by kernel_rfl) (fun _ _ _ h => h) (Or.inl ⟨by rfl, ?Ny1⟩) (by assumption) ?Nr1
        case Ny1 => first | (intro w hSw; (try dsimp only at hSw); go_simp; done) | (intro w hSw; (try dsimp only at hSw); go_simp; with_reducible rfl)
        case' Nr1 => try simp only [Act.put, List.setIfInBounds_toArray, List.set_cons_zero, List.set_cons_succ]
        refine wpAnyH_takeL (i := 2) (v := ?Nv2) rfl (by kernel_rfl) (by kernel_rfl) (by kernel_rfl) (fun _ _ _ h => h) (Or.inl ⟨by rfl, ?Ny2⟩) (by assumption) ?Nr2
        case Ny2 => first | (intro w hSw; (try dsimp only at hSw); go_simp; done) | (intro w hSw; (try dsimp only at hSw); go_simp; with_reducible rfl)
        case' Nr2 => try simp only [Act.put, List.setIfInBounds_toArray, List.set_cons_zero, List.set_cons_succ]
        refine wpAnyH_takeL (i := 3) (v := undef) rfl (by kernel_rfl) (by kernel_rfl) (by kernel_rfl) (fun _ _ _ h => h) (Or.inr ⟨by rfl, rfl⟩) (by assumption) ?Nr3
        case' Nr3 => try simp only [Act.put, List.setIfInBounds_toArray, List.set_cons_zero, List.set_cons_succ]
        refine wpAnyH_takeL (i := 4) (v := undef) rfl (by kernel_rfl) (by kernel_rfl) (by kernel_rfl) (fun _ _ _ h => h) (Or.inr ⟨by rfl, rfl⟩) (by assumption) ?Nr4
        case' Nr4 => try simp only [Act.put, List.setIfInBounds_toArray, List.set_cons_zero, List.set_cons_succ]
        refine wpAnyH_takeL (i := 5) (v := undef) rfl (by kernel_rfl) (by kernel_rfl) (by kernel_rfl) (fun _ _ _ h => h) (Or.inr ⟨by rfl, rfl⟩) (by assumption) ?Nr5
        case' Nr5 => try simp only [Act.put, List.setIfInBounds_toArray, List.set_cons_zero, List.set_cons_succ]
        refine wpAnyH_takeL (i := 6) (v := undef) rfl (by kernel_rfl) (by kernel_rfl) (by kernel_rfl) (fun _ _ _ h => h) (Or.inr ⟨by rfl, rfl⟩) (by assumption) ?Nr6
        case' Nr6 => try simp only [Act.put, List.setIfInBounds_toArray, List.set_cons_zero, List.set_cons_succ]
        refine wpAnyH_takeL (i := 7) (v := undef) rfl (by kernel_rfl) (by kernel_rfl) (by kernel_rfl) (fun _ _ _ h => h) (Or.inr ⟨by rfl, rfl⟩) (by assumption) ?Nr7
        case' Nr7 => try simp only [Act.put, List.setIfInBounds_toArray, List.set_cons_zero, List.set_cons_succ]
        refine wpAnyH_takeL (i := 8) (v := undef) rfl (by kernel_rfl) (by kernel_rfl) (by kernel_rfl) (fun _ _ _ h => h) (Or.inr ⟨by rfl, rfl⟩) (by assumption) ?Nr8
        case' Nr8 => try simp only [Act.put, List.setIfInBounds_toArray, List.set_cons_zero, List.set_cons_succ]
        refine wpAnyH_takeL (i := 9) (v := undef) rfl (by kernel_rfl) (by kernel_rfl) (by kernel_rfl) (fun _ _ _ h => h) (Or.inr ⟨by rfl, rfl⟩) (by assumption) ?Nr9
        case' Nr9 => try simp only [Act.put, List.setIfInBounds_toArray, List.set_cons_zero, List.set_cons_succ]
        refine wpAnyH_ready (rs := [10]) (by kernel_rfl) (by simp) ?_
        refine AllReadyH.consL rfl (fun K hK => ?_) AllReadyH.nil
        refine cast (if_neg (fun h => Bool.noConfusion (show false = true from h))).symm ?_
        refine hK.out _ _ (by assumption) (fun hSN1 => ?_)
        clear hK K
        try simp only [Act.put, List.setIfInBounds_toArray, List.set_cons_zero, List.set_cons_succ]
        refine wpAnyH_takeL (i := 11) (v := ?Nv11) rfl (by kernel_rfl) (by kernel_rfl) (by kernel_rfl) (fun _ _ _ h => h) (Or.inl ⟨by rfl, ?Ny11⟩) (by assumption) ?Nr11
        case Ny11 => first | (intro w hSw; (try dsimp only at hSw); go_simp; done) | (intro w hSw; (try dsimp only at hSw); go_simp; with_reducible rfl)
        case' Nr11 => try simp only [Act.put, List.setIfInBounds_toArray, List.set_cons_zero, List.set_cons_succ]
        refine wpAnyH_done (by kernel_rfl) ?_ _
        go_wp2
        first
          | go_roundw
          | refine ⟨?rel, ?measure⟩
        case rel => exact ⟨j + 1, m, A1, c1, O, _, c2, Wk, by omega, hm, by go_num, by rw [HNO.out], rfl, HWL, hid (HWK.out.skip HXJ.out (.inl (by unfold isB; rw [HNN.out]; rfl))), hid (Nat.le_trans (Nat.add_le_add_left (Nat.mul_le_mul_left _ (unW_skip HXJ.out)) _) HUM.out), hid HO.out.dr, hid (by rw [HNO.out]; exact HS.out.ext (Ext.refl _).drew), hid HX.out.drew⟩
        case measure => simp [intOf]; omega
      | some s =>
        have HSS := hid ho
        clear ho
        go_wp2_with fail
        refine (blkof_some wr A n c b (HBR.out.mono fun _ _ _ => trivial) x s HSS.out).mono ?_
        rintro e w5 ⟨rfl, k5, hk5, rfl⟩
        have hk5n := (List.getElem?_eq_some_iff.1 hk5).1
        have hk5N : k5 < n := by have := HLN.out; omega
        have HK5 := hid hk5
        have b1 : decide ((k5 : Int) < 0) = false := decide_eq_false (by omega)
        obtain ⟨r, hr⟩ : ∃ r, (Wk.take j).contains x = r := ⟨_, rfl⟩
        have HR := hid hr
        have HTK := hid ((HO.out.sl).take (k := j) (by omega))
        have hjc : j ≤ c2 := by have := hcc.1; omega
        have hjc2 : (j : Int) ≤ (c2 : Int) := by omega
        clear hk5 hk5n hr
        go_upto_region 7 with fail
        refine wp_region_held_drew (S := (fun w' => w'.cell? ⟨bg, og + j, none⟩ = some (.int .u32 x))) (by kernel_rfl) cx (fun hSR0 => ?_)
        refine wpAnyH_takeL (i := 0) (v := ?Rv0) rfl (by kernel_rfl) (by kernel_rfl) (by kernel_rfl) (fun _ _ _ h => h) (Or.inl ⟨by rfl, ?Ry0⟩) (by assumption) ?Rr0
        case Ry0 => first | (intro w hSw; (try dsimp only at hSw); go_simp; done) | (intro w hSw; (try dsimp only at hSw); go_simp; with_reducible rfl)
        case' Rr0 => try simp only [Act.put, List.setIfInBounds_toArray, List.set_cons_zero, List.set_cons_succ]
        refine wpAnyH_takeL (i := 1) (v := ?Rv1) rfl (by kernel_rfl) (by kernel_rfl) (by kernel_rfl) (fun _ _ _ h => h) (Or.inl ⟨by rfl, ?Ry1⟩) (by assumption) ?Rr1
        case Ry1 => first | (intro w hSw; (try dsimp only at hSw); go_simp; done) | (intro w hSw; (try dsimp only at hSw); go_simp; with_reducible rfl)
        case' Rr1 => try simp only [Act.put, List.setIfInBounds_toArray, List.set_cons_zero, List.set_cons_succ]
        refine wpAnyH_takeL (i := 2) (v := ?Rv2) rfl (by kernel_rfl) (by kernel_rfl) (by kernel_rfl) (fun _ _ _ h => h) (Or.inl ⟨by rfl, ?Ry2⟩) (by assumption) ?Rr2
        case Ry2 => first | (intro w hSw; (try dsimp only at hSw); go_simp; done) | (intro w hSw; (try dsimp only at hSw); go_simp; with_reducible rfl)
        case' Rr2 => try simp only [Act.put, List.setIfInBounds_toArray, List.set_cons_zero, List.set_cons_succ]
        refine wpAnyH_takeL (i := 3) (v := ?Rv3) rfl (by kernel_rfl) (by kernel_rfl) (by kernel_rfl) (fun _ _ _ h => h) (Or.inl ⟨by rfl, ?Ry3⟩) (by assumption) ?Rr3
        case Ry3 => first | (intro w hSw; (try dsimp only at hSw); go_simp; done) | (intro w hSw; (try dsimp only at hSw); go_simp; with_reducible rfl)
        case' Rr3 => try simp only [Act.put, List.setIfInBounds_toArray, List.set_cons_zero, List.set_cons_succ]
        refine wpAnyH_takeL (i := 4) (v := ?Rv4) rfl (by kernel_rfl) (by kernel_rfl) (by kernel_rfl) (fun _ _ _ h => h) (Or.inl ⟨by rfl, ?Ry4⟩) (by assumption) ?Rr4
        case Ry4 => first | (intro w hSw; (try dsimp only at hSw); go_simp; done) | (intro w hSw; (try dsimp only at hSw); go_simp; with_reducible rfl)
        case' Rr4 => try simp only [Act.put, List.setIfInBounds_toArray, List.set_cons_zero, List.set_cons_succ]
        refine wpAnyH_takeL (i := 5) (v := ?Rv5) rfl (by kernel_rfl) (by kernel_rfl) (by kernel_rfl) (fun _ _ _ h => h) (Or.inl ⟨by rfl, ?Ry5⟩) (by assumption) ?Rr5
        case Ry5 => first | (intro w hSw; (try dsimp only at hSw); go_simp; done) | (intro w hSw; (try dsimp only at hSw); go_simp; with_reducible rfl)
        case' Rr5 => try simp only [Act.put, List.setIfInBounds_toArray, List.set_cons_zero, List.set_cons_succ]
        refine wpAnyH_takeL (i := 6) (v := ?Rv6) rfl (by kernel_rfl) (by kernel_rfl) (by kernel_rfl) (fun _ _ _ h => h) (Or.inl ⟨by rfl, ?Ry6⟩) (by assumption) ?Rr6
        case Ry6 => first | (intro w hSw; (try dsimp only at hSw); go_simp; done) | (intro w hSw; (try dsimp only at hSw); go_simp; with_reducible rfl)
        case' Rr6 => try simp only [Act.put, List.setIfInBounds_toArray, List.set_cons_zero, List.set_cons_succ]
        refine wpAnyH_takeL (i := 7) (v := ?Rv7) rfl (by kernel_rfl) (by kernel_rfl) (by kernel_rfl) (fun _ _ _ h => h) (Or.inl ⟨by rfl, ?Ry7⟩) (by assumption) ?Rr7
        case Ry7 => first | (intro w hSw; (try dsimp only at hSw); go_simp; done) | (intro w hSw; (try dsimp only at hSw); go_simp; with_reducible rfl)
        case' Rr7 => try simp only [Act.put, List.setIfInBounds_toArray, List.set_cons_zero, List.set_cons_succ]
        refine wpAnyH_takeL (i := 8) (v := ?Rv8) rfl (by kernel_rfl) (by kernel_rfl) (by kernel_rfl) (fun _ _ _ h => h) (Or.inl ⟨by rfl, ?Ry8⟩) (by assumption) ?Rr8
        case Ry8 => first | (intro w hSw; (try dsimp only at hSw); go_simp; done) | (intro w hSw; (try dsimp only at hSw); go_simp; with_reducible rfl)
        case' Rr8 => try simp only [Act.put, List.setIfInBounds_toArray, List.set_cons_zero, List.set_cons_succ]
        refine wpAnyH_takeL (i := 9) (v := ?Rv9) rfl (by kernel_rfl) (by kernel_rfl) (by kernel_rfl) (fun _ _ _ h => h) (Or.inl ⟨by rfl, ?Ry9⟩) (by assumption) ?Rr9
        case Ry9 => first | (intro w hSw; (try dsimp only at hSw); go_simp; done) | (intro w hSw; (try dsimp only at hSw); go_simp; with_reducible rfl)
        case' Rr9 => try simp only [Act.put, List.setIfInBounds_toArray, List.set_cons_zero, List.set_cons_succ]
        refine wpAnyH_ready (rs := [10]) (by kernel_rfl) (by simp) ?_
        refine AllReadyH.consL rfl (fun K hK => ?_) AllReadyH.nil
        go_simp
        go_at_call 62
        refine (has_any _ All (some ⟨bg, og, none⟩) j c2 (Wk.take j) (HTK.out.ext ((Ext.refl _).drew)) x).mono ?_
        rintro e w6 ⟨rfl, rfl⟩
        rw [HR.out]
        refine hK.out _ _ (by assumption) (fun hSR1 => ?_)
        clear hK K
        try simp only [Act.put, List.setIfInBounds_toArray, List.set_cons_zero, List.set_cons_succ]
        refine wpAnyH_takeL (i := 11) (v := ?Rv11) rfl (by kernel_rfl) (by kernel_rfl) (by kernel_rfl) (fun _ _ _ h => h) (Or.inl ⟨by rfl, ?Ry11⟩) (by assumption) ?Rr11
        case Ry11 => first | (intro w hSw; (try dsimp only at hSw); go_simp; done) | (intro w hSw; (try dsimp only at hSw); go_simp; with_reducible rfl)
        case' Rr11 => try simp only [Act.put, List.setIfInBounds_toArray, List.set_cons_zero, List.set_cons_succ]
        refine wpAnyH_done (by kernel_rfl) ?_ _
        cases r with
        | true =>
          go_wp2
          first
            | go_roundw
            | refine ⟨?rel, ?measure⟩
          case rel => exact ⟨j + 1, m, A1, c1, O, _, c2, Wk, by omega, hm, by go_num, by rw [HNO.out], rfl, HWL, hid (HWK.out.skip HXJ.out (.inr (List.contains_iff_mem.1 HR.out))), hid (Nat.le_trans (Nat.add_le_add_left (Nat.mul_le_mul_left _ (unW_skip HXJ.out)) _) HUM.out), hid HO.out.dr, hid (by rw [HNO.out]; exact HS.out.ext (Ext.refl _).drew), hid HX.out.drew⟩
          case measure => simp [intOf]; omega
        | false =>
          have HOD := hid HO.out.dr
          have HSD := hid (HS.out.ext (Ext.refl _).drew)
          have HXD := hid HX.out.drew
          have hdis : ∀ d, wr.drew.heap.size ≤ d → w.heap.size ≤ d ∧ some d ≠ (Value.slice (some ⟨bg, og, none⟩) m c2).ownBlock := fun d hd => ⟨Nat.le_trans HXD.out.size hd, fun e => by have := (HOD.out.block d e.symm).2; omega⟩
          have HDIS := hid hdis
          have cx := (Ext.refl wr).drew.cell cx
          clear hdis
          go_wp2_with fail
          refine (inserts_any _ wr.drew wr.drew (Ext.refl _) HDIS.out A1 NO c1 O HSD.out (by omega) x hx32).mono ?_
          rintro e w6 ⟨hx6, A6, c6, rfl, hs6⟩
          have HX6 := hid (HXD.out.trans hx6)
          have HO6 := hid (HOD.out.ext hx6)
          have HS6 := hid hs6
          obtain ⟨bb, off, B1, d1, B2, d2, B3, d3, hAA, -, hsu, -, -, -, e0, e1, e2, e3, e4⟩ := Sl.bs_at ((HBR.out.ext ((Ext.refl _).drew)).ext hx6) HK5.out
          cases hAA
          have hsl := HSU.out s (List.mem_of_getElem? HK5.out)
          obtain ⟨ns, hns⟩ : ∃ ns, s.succ.length = ns := ⟨_, rfl⟩
          rw [hns] at hsl e3 hsu
          have hun := unW_add (s := s.succ) HXJ.out (isB_some HSS.out) HR.out
          have humn : m + ns + 12 * unW b (Wk ++ s.succ) (j + 1) ≤ 241 := by have h2 := HUM.out; have h3 := HWL.out; omega
          have hmn : m + ns ≤ 241 := by omega
          have HUMN : Hid ((Wk ++ s.succ).length + 12 * unW b (Wk ++ s.succ) (j + 1) ≤ 241) := hid (by rw [List.length_append, HWL.out, hns]; exact humn)
          have HSUC := hid hsu
          have HNS := hid hns
          have HWZ : Hid (w.heap.size ≤ w6.heap.size) := hid HX6.out.size
          clear hx6 hs6 hsu hun humn hns e0 e1 e2 e4
          go_wp2_with (first
            | (at_builtin; refine wpList_appS rfl (.tmp 41) (.tmp 46) 23 rfl w.heap.size 38 k0 _ 1 4 Tryz.underlying23 HKF.out HK0.out HK1.out HK2.out rfl u32R rfl (.slice (some ⟨bg, og, none⟩) m c2) Wk rfl HO6.out B2 ns d2 s.succ (fun d => d < w.heap.size) rfl HSUC.out (fun d hd _ => ⟨trivial, fun e => by have := HO6.out.block d e.symm; omega⟩) (by rw [HWL.out]; omega) (by rw [HWL.out]; omega) HWZ.out ?_; intro A9 c9 w9 hown9 hg9 hl9; rw [HWL.out] at hown9 hl9 ⊢; have HO9 := hid hown9; have HX9 := hid (HX6.out.grown hg9 (fun q hq => (HO6.out.block _ hq).1)); have HG9 := hid hg9; have HL9 := hid hl9; clear hown9 hg9 hl9)
            | fail)
          first
            | go_roundw
            | refine ⟨?rel, ?measure⟩
          case rel =>
            refine ⟨j + 1, m + ns, A6, c6, insOf O x, A9, c9, Wk ++ s.succ, by omega, hmn, by go_num, rfl, rfl, hid (by rw [List.length_append, HWL.out, HNS.out]), hid (HWK.out.add HXJ.out HSS.out), HUMN, HO9, hid ?_, HX9⟩
            have h1 := HS6.out.mono (S' := fun d => (w.heap.size ≤ d ∧ some d ≠ (Value.slice (some ⟨bg, og, none⟩) m c2).ownBlock) ∧ some d ≠ (Value.slice A9 (m + ns) c9).ownBlock) fun d hd hc => ⟨hd, fun e => by
              rcases HL9.out with h | h
              · rw [h] at e; exact hd.2 e
              · rw [h] at e
                have h2 := hc.lt
                cases e
                omega⟩
            have h2 := h1.keep (w' := w9) fun d hd hc => HG9.out.block d hc.lt hd.1.2
            exact h2.mono fun d hd _ => ⟨hd.1.1, hd.2⟩
          case measure => simp [intOf]; omega
    · obtain rfl : j = m := by omega
      go_wp2
      go_ret
      refine ⟨HX.out, A1, c1, O, rfl, HS.out.mono (fun d hd _ => hd.1), HWK.out.asc, HWK.out.fin (by rw [HWL.out]; exact Nat.le_refl _), HWK.out.len⟩
end Go.Proofs.YtnlmhnbogleijaaGreatDoor
