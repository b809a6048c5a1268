/- FuncsClosed: the law walked. -/
import Derived.Test.YtnlmhnbogleijaaDoorFbem
import Derived.Test.YtnlmhnbogleijaaDoorFunEm
import Derived.Test.YtnlmhnbogleijaaDoorLawB
import Derived.Deep.DeepBigQuietO
import Derived.Deep.CutRange
namespace Go.Proofs.YtnlmhnbogleijaaDoor
open Go Go.RowKit Go.Deco
set_option linter.unusedSimpArgs false
set_option linter.unusedVariables false

def sucOf (b : List Bs) (x : Nat) : List Nat := match blkA b x with | some s => s.succ | none => []
/-- The successors of a list of blocks. -/
def tosOf (b : List Bs) (bl : List Nat) : List Nat := (bl.map (sucOf b)).flatten
theorem tosOf_snoc {b : List Bs} {bl : List Nat} {x : Nat} {s : Bs} (h : blkA b x = some s) : tosOf b (bl ++ [x]) = tosOf b bl ++ s.succ := by
  unfold tosOf
  rw [List.map_append, List.flatten_append]
  simp [sucOf, h]
theorem tosOf_mem {b : List Bs} {bl : List Nat} {y : Nat} : y ∈ tosOf b bl ↔ ∃ x ∈ bl, ∃ s, blkA b x = some s ∧ y ∈ s.succ := by
  unfold tosOf
  rw [List.mem_flatten]
  constructor
  · rintro ⟨l, hl, hy⟩
    obtain ⟨x, hx, rfl⟩ := List.mem_map.1 hl
    unfold sucOf at hy
    cases h : blkA b x with
    | none => rw [h] at hy; cases hy
    | some s => rw [h] at hy; exact ⟨x, hx, s, h, hy⟩
  · rintro ⟨x, hx, s, hs, hy⟩
    exact ⟨_, List.mem_map.2 ⟨x, hx, rfl⟩, by unfold sucOf; rw [hs]; exact hy⟩
theorem tosOf_len {b : List Bs} (hb : ∀ s ∈ b, s.succ.length ≤ 12) (bl : List Nat) : (tosOf b bl).length ≤ 12 * bl.length := by
  have h := flat_len (m := 12) (l := bl.map (sucOf b)) (by
    intro x hx
    obtain ⟨y, hy, rfl⟩ := List.mem_map.1 hx
    unfold sucOf
    cases h : blkA b y with
    | none => simp
    | some s => exact hb s (blkA_mem h).1)
  rw [List.length_map] at h
  exact h
set_option maxRecDepth 100000 in
set_option maxHeartbeats 8000000 in
theorem closed_any (w : World) (ht : TabAt w) (A E : Option Addr) (n c ne ce : Nat) (b : List Bs) (es : List Nat) (hl : Sl bsR w All (.slice A n c) b) (he : Sl u32R w All (.slice E ne ce) es) :
    Calls Tryd.prog 3 #[.slice A n c, .slice E ne ce] w (OneBool w true) := by
  have hln := hl.len
  have hle := he.len
  have hcb := hl.cap
  have hce := he.cap
  have HLN := hid hln
  have HLE := hid hle
  have HB := hid hl
  have HE := hid he
  have HT := hid ht
  have mixed : Tryd.prog.follows Departure.mixedOrders = true := by kernel_rfl
  clear hl he ht hln hle
  go_enter Tryd.func3, Tryd.ntmps3
  go_wp2_with fail
  refine (fewb_any w A n c b HB.out).mono ?_
  rintro e w' ⟨⟨r, rfl, hr⟩, rfl⟩
  cases r with
  | false =>
    go_wp2_with fail
    refine (example_any _).mono ?_
    rintro e wz ⟨rfl, hxz⟩
    have HXZ := hid ((Ext.refl w).trans hxz)
    clear hxz
    go_wp2
    go_ret
    exact ⟨rfl, HXZ.out⟩
  | true =>
  obtain ⟨hn20, hok⟩ := hr rfl
  have HOK := hid hok
  clear hr hok
  by_cases h20 : 20 < ne
  · clear mixed
    go_wp2_with fail
    refine (example_any _).mono ?_
    rintro e wz ⟨rfl, hxz⟩
    have HXZ := hid ((Ext.refl w).trans hxz)
    clear hxz
    go_wp2
    go_ret
    exact ⟨rfl, HXZ.out⟩
  go_wp2_with fail
  refine (basics_any w A n c b HB.out (by omega)).mono ?_
  rintro e w1 ⟨hx1, A1, c1, rfl, hs1⟩
  have HX1 := hid hx1
  rw [← HLN.out] at hs1 ⊢
  have HS1 := hid hs1
  clear hx1 hs1
  go_wp2_with fail
  refine (ffind2_any w1 (HT.out.ext HX1.out) A1 E none n c1 ne ce 0 0 b es [] HS1.out (HE.out.ext HX1.out) Sl.nil (by omega) (by omega) (okB_sizes HOK.out) (by simp)).mono ?_
  rintro e w2 ⟨hx2, A2, c2, fs, rfl, hs2, h0, h1, hbd⟩
  have HX2 := hid (HX1.out.trans hx2)
  have HS2 := hid hs2
  have HBD := hid hbd
  obtain ⟨er, her⟩ : ∃ er, findErr (checkBs b) b (asc es) = er := ⟨_, rfl⟩
  rw [her] at h0 h1 ⊢
  have HER := hid her
  clear hx2 hs2 hbd her
  by_cases hez : er = 0
  · have HFS := hid (h1 hez)
    subst hez
    clear h0 h1
    obtain ⟨N, hN⟩ : ∃ N, fs.length = N := ⟨_, rfl⟩
    have HN := hid hN
    rw [hN] at HS2 ⊢
    clear hN
    have hV : ∃ V, V = w2 := ⟨_, rfl⟩
    obtain ⟨V, rfl⟩ := hV
    have hEN : ∀ k a, (asc es)[k]? = some a → isB b a = true ∧ a ∈ es := fun k a hk => by
      have hm := List.mem_of_getElem? hk
      refine ⟨?_, asc_mem.1 hm⟩
      have h2 := HER.out
      unfold findErr at h2
      split at h2
      · next h3 => exact absurd h2 h3
      · split at h2
        · cases h2
        · split at h2
          · next h3 => exact List.all_eq_true.1 h3 a hm
          · cases h2
    have HEN := hid hEN
    have HBV := hid (HB.out.ext HX2.out)
    have HEV := hid (HE.out.ext HX2.out)
    have HSU : Hid (∀ s ∈ b, s.succ.length ≤ 12) := hid fun s hs => (HOK.out s hs).2.1
    have hnN : N ≤ 64 := by
      have h2 := HER.out
      have h3 := HFS.out.1
      have h4 := HN.out
      unfold findErr at h2
      split at h2
      · next h3 => exact absurd h2 h3
      · split at h2
        · cases h2
        · omega
    clear hEN
    go_wp2
    go_loopw [7] (fun i wr => ∃ k, k ≤ N ∧ i = .int .i64 k ∧ Hid (Ext V wr)) (fun i _ => N - (intOf i).toNat)
    case atStart => exact ⟨0, by omega, rfl, hid (Ext.refl _)⟩
    case round =>
      obtain ⟨k, hk, rfl, HX⟩ := hrel
      have hU : ∃ U, U = wr := ⟨_, rfl⟩
      obtain ⟨U, rfl⟩ := hU
      by_cases h1 : k < N
      · obtain ⟨f, hf⟩ : ∃ f, fs[k]? = some f := ⟨_, List.getElem?_eq_getElem (by have := HN.out; omega)⟩
        obtain ⟨a, ha⟩ : ∃ a, (asc es)[k]? = some a := ⟨_, List.getElem?_eq_getElem (by have := HN.out; have := HFS.out.1; omega)⟩
        have hfo := HFS.out.2 k a f ha hf
        obtain ⟨bf, of, bA, bc, cA, cc, rfl, hbl, hcl, hfe, hfn, x0, x1, x2, x3, x4⟩ := Sl_fn_at (HS2.out.ext HX.out) hf
        obtain ⟨W1, hW1⟩ : ∃ W1, U.alloc (.cells #[.int .u32 f.entry, .string f.name, .slice bA f.blocks.length bc, .slice cA f.calls.length cc, .bool f.leaf] 34) = W1 := ⟨_, rfl⟩
        have hE1 : Ext U W1 := by rw [← hW1]; exact (Ext.refl U).alloc _
        have p0 : W1.cell? ⟨U.heap.size, 0, none⟩ = some (.int .u32 f.entry) := by rw [← hW1]; simp [go_sem]
        have p2 : W1.cell? ⟨U.heap.size, 2, none⟩ = some (.slice bA f.blocks.length bc) := by rw [← hW1]; simp [go_sem]
        have p3 : W1.cell? ⟨U.heap.size, 3, none⟩ = some (.slice cA f.calls.length cc) := by rw [← hW1]; simp [go_sem]
        have p4 : W1.cell? ⟨U.heap.size, 4, none⟩ = some (.bool f.leaf) := by rw [← hW1]; simp [go_sem]
        have hbb : f.blocks.length ≤ 20 := by have := (HBD.out f (List.mem_of_getElem? hf)).1; have := HLN.out; omega
        have hcc6 : f.calls.length ≤ 1000000 := (HBD.out f (List.mem_of_getElem? hf)).2
        obtain ⟨hia, hae⟩ := HEN.out k a ha
        obtain ⟨hbc1, hbc2⟩ := hbl.cap
        obtain ⟨hcc1, hcc2⟩ := hcl.cap
        have HFO := hid hfo
        have HIA := hid hia
        have HAE := hid hae
        have HBL := hid (hbl.ext hE1)
        have hfea := hfo.entry
        obtain ⟨nb, hnb⟩ : ∃ nb, f.blocks.length = nb := ⟨_, rfl⟩
        obtain ⟨nc, hnc⟩ : ∃ nc, f.calls.length = nc := ⟨_, rfl⟩
        obtain ⟨lf, hlf⟩ : ∃ lf, f.leaf = lf := ⟨_, rfl⟩
        rw [hnb] at p2 hbb hbc1 HBL
        rw [hnc] at p3 hcc6 hcc1
        rw [hlf] at p4
        rw [hfea] at p0 hfe
        have HNB := hid hnb
        have HNC := hid hnc
        have HLF := hid hlf
        have HXW := hid (HX.out.trans hE1)
        have HP := hid (And.intro p0 (And.intro p2 (And.intro p3 p4)))
        have HBW := hid (HBV.out.ext (HX.out.trans hE1))
        have HEW := hid (HEV.out.ext (HX.out.trans hE1))
        have HBXL : Hid (U.heap.size < W1.heap.size) := hid (World.block_lt_of_cell? _ _ p0)
        clear hf ha hfo hbl hcl hia hae hE1 hnb hnc hlf hfea p0 p3 p4
        obtain ⟨k0, hkf, hk0, hk1, hk2⟩ := info_parts info_w32
        have HKF := hid hkf
        have HK0 := hid hk0
        have HK1 := hid hk1
        have HK2 := hid hk2
        clear hkf hk0 hk1 hk2
        go_wp2
        clear p2
        go_loopw [9, 10] (fun v i wr => ∃ (j m : Nat) (A' : Option Addr) (c' : Nat), j ≤ nb ∧ i = .int .i64 j ∧ v = .slice A' m c' ∧ m ≤ 240 ∧ Hid (m = (tosOf b (f.blocks.take j)).length) ∧ Hid (OwnS u32R wr W1.heap.size 32 All (.slice A' m c') (tosOf b (f.blocks.take j))) ∧ Hid (Ext W1 wr)) (fun _ i _ => nb - (intOf i).toNat)
        case atStart => exact ⟨0, 0, none, 0, by omega, rfl, rfl, by omega, hid rfl, hid OwnS.nil, hid (Ext.refl _)⟩
        case round =>
          obtain ⟨j, m, A', c', hj, rfl, rfl, hm240, HM, HO, HXJ⟩ := hrel
          have p2 := HXJ.out.cell HP.out.2.1
          by_cases h2 : j < nb
          · obtain ⟨x, hx⟩ : ∃ x, f.blocks[j]? = some x := ⟨_, List.getElem?_eq_getElem (by have := HNB.out; omega)⟩
            obtain ⟨bq, oq, rfl, cx, hx32⟩ := Sl.num_at (HBL.out.ext HXJ.out) hx
            have hrx : ReachB b a x := (HFO.out.blocks x).1 (List.mem_of_getElem? hx)
            obtain ⟨s, hs⟩ := Option.isSome_iff_exists.1 hrx.ends
            have HS := hid hs
            have HJX := hid hx
            have hasc : ∀ q y, j = q + 1 → f.blocks[q]? = some y → y < x := fun q y hq hy => by
              obtain ⟨h3, rfl⟩ := List.getElem?_eq_some_iff.1 hy
              obtain ⟨h4, rfl⟩ := List.getElem?_eq_some_iff.1 hx
              exact List.pairwise_iff_getElem.1 HFO.out.asc q j h3 h4 (by omega)
            have HASC := hid hasc
            clear hx hrx hs hasc
            go_wp2_with fail
            refine (blkof_some wr A n c b (HBW.out.ext HXJ.out) x s HS.out).mono ?_
            rintro e w5 ⟨rfl, k5, hk5, rfl⟩
            have hk5n := (List.getElem?_eq_some_iff.1 hk5).1
            have hk5N : k5 < n := by have := HLN.out; omega
            have HK5 := hid hk5
            clear hk5 hk5n
            go_upto_region 15 with fail
            have b1 : decide ((k5 : Int) < 0) = false := decide_eq_false (by omega)
            go_cut [81] from 62 to 81 (fun s81 wx => s81 = .bool false ∧ Hid (Ext wr wx))
            case first =>
              by_cases hj0 : j = 0
              · have d1 : decide ((j : Int) > 0) = false := decide_eq_false (by omega)
                have d2 : decide (0 < (j : Int)) = false := decide_eq_false (by omega)
                have d3 : decide (0 < j) = false := decide_eq_false (by omega)
                clear hj0
                go_big_quiet_o (fail)
                go_wp2
                go_meet
                exact ⟨rfl, hid ((Ext.refl wr).drewN _)⟩
              · obtain ⟨q, hq⟩ : ∃ q, j = q + 1 := ⟨j - 1, by omega⟩
                obtain ⟨y, hy⟩ : ∃ y, f.blocks[q]? = some y := ⟨_, List.getElem?_eq_getElem (by have := HNB.out; omega)⟩
                have hyx := HASC.out q y hq hy
                obtain ⟨bq', oq', hA, cy, -⟩ := Sl.num_at (HBL.out.ext HXJ.out) hy
                cases hA
                have d1 : decide ((j : Int) > 0) = true := decide_eq_true (by omega)
                have d2 : decide (0 < (j : Int)) = true := decide_eq_true (by omega)
                have d3 : decide (0 < j) = true := decide_eq_true (by omega)
                have d4 : decide ((x : Int) ≤ (y : Int)) = false := decide_eq_false (by omega)
                have d5 : decide (x ≤ y) = false := decide_eq_false (by omega)
                have f3 : IntKind.i64.wrap ((j : Int) - 1) = (q : Int) := by rw [hq]; rw [IntWalk.i64_in _ (by omega)]; omega
                have g1 : (0 : Int) ≤ (q : Int) := by omega
                have g2 : (q : Int) < (nb : Int) := by omega
                have g3 : (0 : Int) ≤ (j : Int) := by omega
                have g4 : (j : Int) < (nb : Int) := by omega
                clear hq hy hyx hj0
                go_big_quiet_o (fail)
                go_wp2
                go_meet
                exact ⟨rfl, hid ((Ext.refl wr).drewN _)⟩
            case rest =>
              obtain ⟨rfl, hx5⟩ := hcut
              have HX5 := hid (HXJ.out.trans hx5.out)
              have HO5 := hid (HO.out.ext hx5.out)
              obtain ⟨bb, off, A6, d6, A7, d7, A8, d8, hAA, -, hsu, -, -, -, e0, e1, e2, e3, e4⟩ := Sl.bs_at ((HBW.out.mono (S' := fun d => d < W1.heap.size) fun d _ h => h.lt).ext (HXJ.out.trans hx5.out)) HK5.out
              cases hAA
              have hsl := HSU.out s (List.mem_of_getElem? HK5.out)
              have htl := tosOf_snoc (bl := f.blocks.take j) HS.out
              rw [← take_snoc' HJX.out] at htl
              have htn := tosOf_len HSU.out (f.blocks.take (j + 1))
              have htk : (f.blocks.take (j + 1)).length ≤ 20 := by rw [List.length_take]; omega
              obtain ⟨ns, hns⟩ : ∃ ns, s.succ.length = ns := ⟨_, rfl⟩
              have hmn : m + ns = (tosOf b (f.blocks.take (j + 1))).length := by rw [htl, List.length_append, hns, ← HM.out]
              rw [hns] at hsl e3 hsu
              have HSL := hid hsu
              have HMN := hid hmn
              have HTL := hid htl
              have hm2 : m + ns ≤ 240 := by omega
              have HWW : Hid (W1.heap.size ≤ wc.heap.size) := hid HX5.out.size
              clear hx5 hsu htl htn htk hns hmn b1 e0 e1 e2 e4
              go_wp2_with (first
                | (at_builtin; refine wpList_appS rfl (.tmp 82) (.tmp 87) 23 rfl W1.heap.size 32 k0 _ 1 4 Tryd.underlying23 HKF.out HK0.out HK1.out HK2.out rfl u32R rfl (.slice A' m c') (tosOf b (f.blocks.take j)) rfl HO5.out A7 ns d7 s.succ (fun d => d < W1.heap.size) rfl HSL.out (fun d hd _ => ⟨trivial, fun e => by have := HO5.out.block d e.symm; omega⟩) (by rw [← HM.out]; omega) (by rw [← HM.out]; omega) HWW.out ?_; intro A9 c9 w9 hown9 hg9 hl9; rw [← HM.out, ← HTL.out] at hown9; rw [← HM.out]; have HO9 := hid hown9; have HX9 := hid (HX5.out.grown hg9 (fun q hq => (HO5.out.block _ hq).1)); clear hown9 hg9 hl9)
                | fail)
              first
                | go_roundw
                | refine ⟨?rel, ?measure⟩
              case rel => exact ⟨j + 1, m + ns, A9, c9, by omega, by go_num, rfl, hm2, HMN, HO9, HX9⟩
              case measure => simp [intOf]; omega
          · obtain rfl : j = nb := by omega
            have hall : f.blocks.take j = f.blocks := List.take_of_length_le (by have := HNB.out; omega)
            rw [hall] at HM HO
            obtain ⟨TO, hTO⟩ : ∃ TO, tosOf b f.blocks = TO := ⟨_, rfl⟩
            rw [hTO] at HM HO
            have HTO : Hid (∀ y, y ∈ TO ↔ ∃ x ∈ f.blocks, ∃ s, blkA b x = some s ∧ y ∈ s.succ) := hid (fun y => by rw [← hTO]; exact tosOf_mem)
            have HSO := hid HO.out.sl
            have hU2 : ∃ U2, U2 = wr := ⟨_, rfl⟩
            obtain ⟨U2, rfl⟩ := hU2
            have HLTO : Hid (∀ y ∈ TO, y < 4294967296) := hid HO.out.num_lt
            have hmt := HM.out
            subst hmt
            clear hall hTO
            go_wp2
            clear p2
            go_loopw [12] (fun i wr => ∃ p, p ≤ TO.length ∧ i = .int .i64 p ∧ Hid (Ext U2 wr)) (fun i _ => TO.length - (intOf i).toNat)
            case atStart => exact ⟨0, by omega, rfl, hid (Ext.refl _)⟩
            case round =>
              obtain ⟨p, hp, rfl, HXP⟩ := hrel
              have p2 := HXP.out.cell (HXJ.out.cell HP.out.2.1)
              by_cases h3 : p < TO.length
              · obtain ⟨y, hy⟩ : ∃ y, TO[p]? = some y := ⟨_, List.getElem?_eq_getElem h3⟩
                obtain ⟨bt, ot, rfl, cy, hy32⟩ := Sl.num_at (HSO.out.ext HXP.out) hy
                have hym := HTO.out y |>.1 (List.mem_of_getElem? hy)
                obtain ⟨o, ho⟩ : ∃ o, blkA b y = o := ⟨_, rfl⟩
                have HBR := hid (HBW.out.ext (HXJ.out.trans HXP.out))
                have HBLR := hid (HBL.out.ext (HXJ.out.trans HXP.out))
                clear hy
                cases o with
                | none =>
                  have HNO := hid ho
                  have b1 : decide ((-1 : Int) ≥ 0) = false := rfl
                  clear ho hym
                  go_upto_region 21 with fail
                  refine wp_region_held_drew (S := (fun w' => w'.cell? ⟨bt, ot + p, none⟩ = some (.int .u32 y))) (by kernel_rfl) cy (fun hSR0 => ?_)
                  refine wpAnyH_takeL (i := 0) (v := ?Rv0) rfl (by kernel_rfl) (by kernel_rfl) (by kernel_rfl) (fun _ _ _ h => h) (Or.inl ⟨by rfl, ?Ry0⟩) (by assumption) ?Rr0
                  case Ry0 => first | (intro w hSw; (try dsimp only at hSw); go_simp; done) | (intro w hSw; (try dsimp only at hSw); go_simp; with_reducible rfl)
                  case' Rr0 => try simp only [Act.put, List.setIfInBounds_toArray, List.set_cons_zero, List.set_cons_succ]
                  refine wpAnyH_takeL (i := 1) (v := ?Rv1) rfl (by kernel_rfl) (by kernel_rfl) (by kernel_rfl) (fun _ _ _ h => h) (Or.inl ⟨by rfl, ?Ry1⟩) (by assumption) ?Rr1
                  case Ry1 => first | (intro w hSw; (try dsimp only at hSw); go_simp; done) | (intro w hSw; (try dsimp only at hSw); go_simp; with_reducible rfl)
                  case' Rr1 => try simp only [Act.put, List.setIfInBounds_toArray, List.set_cons_zero, List.set_cons_succ]
                  refine wpAnyH_takeL (i := 2) (v := ?Rv2) rfl (by kernel_rfl) (by kernel_rfl) (by kernel_rfl) (fun _ _ _ h => h) (Or.inl ⟨by rfl, ?Ry2⟩) (by assumption) ?Rr2
                  case Ry2 => first | (intro w hSw; (try dsimp only at hSw); go_simp; done) | (intro w hSw; (try dsimp only at hSw); go_simp; with_reducible rfl)
                  case' Rr2 => try simp only [Act.put, List.setIfInBounds_toArray, List.set_cons_zero, List.set_cons_succ]
                  refine wpAnyH_takeL (i := 3) (v := ?Rv3) rfl (by kernel_rfl) (by kernel_rfl) (by kernel_rfl) (fun _ _ _ h => h) (Or.inl ⟨by rfl, ?Ry3⟩) (by assumption) ?Rr3
                  case Ry3 => first | (intro w hSw; (try dsimp only at hSw); go_simp; done) | (intro w hSw; (try dsimp only at hSw); go_simp; with_reducible rfl)
                  case' Rr3 => try simp only [Act.put, List.setIfInBounds_toArray, List.set_cons_zero, List.set_cons_succ]
                  refine wpAnyH_takeL (i := 4) (v := ?Rv4) rfl (by kernel_rfl) (by kernel_rfl) (by kernel_rfl) (fun _ _ _ h => h) (Or.inl ⟨by rfl, ?Ry4⟩) (by assumption) ?Rr4
                  case Ry4 => first | (intro w hSw; (try dsimp only at hSw); go_simp; done) | (intro w hSw; (try dsimp only at hSw); go_simp; with_reducible rfl)
                  case' Rr4 => try simp only [Act.put, List.setIfInBounds_toArray, List.set_cons_zero, List.set_cons_succ]
                  refine wpAnyH_ready (rs := [5]) (by kernel_rfl) (by simp) ?_
                  refine AllReadyH.consL rfl (fun K hK => ?_) AllReadyH.nil
                  go_simp
                  go_at_call 10
                  refine (blkof_none _ A n c b (HBR.out.ext ((Ext.refl _).drew)) y HNO.out).mono ?_
                  rintro e w6 ⟨rfl, rfl⟩
                  refine hK.out _ _ (by assumption) (fun hSR1 => ?_)
                  clear hK K
                  try simp only [Act.put, List.setIfInBounds_toArray, List.set_cons_zero, List.set_cons_succ]
                  refine wpAnyH_takeL (i := 6) (v := ?Rv6) rfl (by kernel_rfl) (by kernel_rfl) (by kernel_rfl) (fun _ _ _ h => h) (Or.inl ⟨by rfl, ?Ry6⟩) (by assumption) ?Rr6
                  case Ry6 => first | (intro w hSw; (try dsimp only at hSw); go_simp; done) | (intro w hSw; (try dsimp only at hSw); go_simp; with_reducible rfl)
                  case' Rr6 => try simp only [Act.put, List.setIfInBounds_toArray, List.set_cons_zero, List.set_cons_succ]
                  refine wpAnyH_takeL (i := 7) (v := ?Rv7) rfl (by kernel_rfl) (by kernel_rfl) (by kernel_rfl) (fun _ _ _ h => h) (Or.inl ⟨by rfl, ?Ry7⟩) (by assumption) ?Rr7
                  case Ry7 => first | (intro w hSw; (try dsimp only at hSw); go_simp; done) | (intro w hSw; (try dsimp only at hSw); go_simp; with_reducible rfl)
                  case' Rr7 => try simp only [Act.put, List.setIfInBounds_toArray, List.set_cons_zero, List.set_cons_succ]
                  refine wpAnyH_takeL (i := 8) (v := undef) rfl (by kernel_rfl) (by kernel_rfl) (by kernel_rfl) (fun _ _ _ h => h) (Or.inr ⟨by rfl, rfl⟩) (by assumption) ?Rr8
                  case' Rr8 => try simp only [Act.put, List.setIfInBounds_toArray, List.set_cons_zero, List.set_cons_succ]
                  refine wpAnyH_takeL (i := 9) (v := undef) rfl (by kernel_rfl) (by kernel_rfl) (by kernel_rfl) (fun _ _ _ h => h) (Or.inr ⟨by rfl, rfl⟩) (by assumption) ?Rr9
                  case' Rr9 => try simp only [Act.put, List.setIfInBounds_toArray, List.set_cons_zero, List.set_cons_succ]
                  refine wpAnyH_takeL (i := 10) (v := undef) rfl (by kernel_rfl) (by kernel_rfl) (by kernel_rfl) (fun _ _ _ h => h) (Or.inr ⟨by rfl, rfl⟩) (by assumption) ?Rr10
                  case' Rr10 => try simp only [Act.put, List.setIfInBounds_toArray, List.set_cons_zero, List.set_cons_succ]
                  refine wpAnyH_takeL (i := 11) (v := undef) rfl (by kernel_rfl) (by kernel_rfl) (by kernel_rfl) (fun _ _ _ h => h) (Or.inr ⟨by rfl, rfl⟩) (by assumption) ?Rr11
                  case' Rr11 => try simp only [Act.put, List.setIfInBounds_toArray, List.set_cons_zero, List.set_cons_succ]
                  refine wpAnyH_takeL (i := 12) (v := undef) rfl (by kernel_rfl) (by kernel_rfl) (by kernel_rfl) (fun _ _ _ h => h) (Or.inr ⟨by rfl, rfl⟩) (by assumption) ?Rr12
                  case' Rr12 => try simp only [Act.put, List.setIfInBounds_toArray, List.set_cons_zero, List.set_cons_succ]
                  refine wpAnyH_takeL (i := 13) (v := undef) rfl (by kernel_rfl) (by kernel_rfl) (by kernel_rfl) (fun _ _ _ h => h) (Or.inr ⟨by rfl, rfl⟩) (by assumption) ?Rr13
                  case' Rr13 => try simp only [Act.put, List.setIfInBounds_toArray, List.set_cons_zero, List.set_cons_succ]
                  refine wpAnyH_ready (rs := [14]) (by kernel_rfl) (by simp) ?_
                  refine AllReadyH.consL rfl (fun K hK => ?_) AllReadyH.nil
                  refine cast (if_neg (fun h => Bool.noConfusion (show false = true from h))).symm ?_
                  refine hK.out _ _ (by assumption) (fun hSR2 => ?_)
                  clear hK K
                  try simp only [Act.put, List.setIfInBounds_toArray, List.set_cons_zero, List.set_cons_succ]
                  refine wpAnyH_takeL (i := 15) (v := undef) rfl (by kernel_rfl) (by kernel_rfl) (by kernel_rfl) (fun _ _ _ h => h) (Or.inr ⟨by rfl, rfl⟩) (by assumption) ?Rr15
                  case' Rr15 => try simp only [Act.put, List.setIfInBounds_toArray, List.set_cons_zero, List.set_cons_succ]
                  refine wpAnyH_takeL (i := 16) (v := ?Rv16) rfl (by kernel_rfl) (by kernel_rfl) (by kernel_rfl) (fun _ _ _ h => h) (Or.inl ⟨by rfl, ?Ry16⟩) (by assumption) ?Rr16
                  case Ry16 => first | (intro w hSw; (try dsimp only at hSw); go_simp; done) | (intro w hSw; (try dsimp only at hSw); go_simp; with_reducible rfl)
                  case' Rr16 => try simp only [Act.put, List.setIfInBounds_toArray, List.set_cons_zero, List.set_cons_succ]
                  refine wpAnyH_done (by kernel_rfl) ?_ _
                  go_wp2
                  first
                    | go_roundw
                    | refine ⟨?rel, ?measure⟩
                  case rel => exact ⟨p + 1, by omega, by go_num, hid HXP.out.drew⟩
                  case measure => simp [intOf]; omega
                | some s =>
                  have hyb : f.blocks.contains y = true := by
                    obtain ⟨x, hx, t, ht, hyt⟩ := hym
                    rw [List.contains_iff_mem]
                    exact (HFO.out.blocks y).2 (.step ((HFO.out.blocks x).1 hx) ht hyt (isB_some ho))
                  have HNO := hid ho
                  have HYB := hid hyb
                  clear ho hym hyb
                  go_upto_region 21 with fail
                  refine wp_region_held_drew (S := (fun w' => w'.cell? ⟨bt, ot + p, none⟩ = some (.int .u32 y) ∧ w'.cell? ⟨U.heap.size, 2, none⟩ = some (.slice bA j bc))) (by kernel_rfl) ⟨cy, p2⟩ (fun hST0 => ?_)
                  refine wpAnyH_takeL (i := 0) (v := ?Tv0) rfl (by kernel_rfl) (by kernel_rfl) (by kernel_rfl) (fun _ _ _ h => h) (Or.inl ⟨by rfl, ?Ty0⟩) (by assumption) ?Tr0
                  case Ty0 => first | (intro w hSw; (try dsimp only at hSw); go_simp; done) | (intro w hSw; (try dsimp only at hSw); go_simp; with_reducible rfl)
                  case' Tr0 => try simp only [Act.put, List.setIfInBounds_toArray, List.set_cons_zero, List.set_cons_succ]
                  refine wpAnyH_takeL (i := 1) (v := ?Tv1) rfl (by kernel_rfl) (by kernel_rfl) (by kernel_rfl) (fun _ _ _ h => h) (Or.inl ⟨by rfl, ?Ty1⟩) (by assumption) ?Tr1
                  case Ty1 => first | (intro w hSw; (try dsimp only at hSw); go_simp; done) | (intro w hSw; (try dsimp only at hSw); go_simp; with_reducible rfl)
                  case' Tr1 => try simp only [Act.put, List.setIfInBounds_toArray, List.set_cons_zero, List.set_cons_succ]
                  refine wpAnyH_takeL (i := 2) (v := ?Tv2) rfl (by kernel_rfl) (by kernel_rfl) (by kernel_rfl) (fun _ _ _ h => h) (Or.inl ⟨by rfl, ?Ty2⟩) (by assumption) ?Tr2
                  case Ty2 => first | (intro w hSw; (try dsimp only at hSw); go_simp; done) | (intro w hSw; (try dsimp only at hSw); go_simp; with_reducible rfl)
                  case' Tr2 => try simp only [Act.put, List.setIfInBounds_toArray, List.set_cons_zero, List.set_cons_succ]
                  refine wpAnyH_takeL (i := 3) (v := ?Tv3) rfl (by kernel_rfl) (by kernel_rfl) (by kernel_rfl) (fun _ _ _ h => h) (Or.inl ⟨by rfl, ?Ty3⟩) (by assumption) ?Tr3
                  case Ty3 => first | (intro w hSw; (try dsimp only at hSw); go_simp; done) | (intro w hSw; (try dsimp only at hSw); go_simp; with_reducible rfl)
                  case' Tr3 => try simp only [Act.put, List.setIfInBounds_toArray, List.set_cons_zero, List.set_cons_succ]
                  refine wpAnyH_takeL (i := 4) (v := ?Tv4) rfl (by kernel_rfl) (by kernel_rfl) (by kernel_rfl) (fun _ _ _ h => h) (Or.inl ⟨by rfl, ?Ty4⟩) (by assumption) ?Tr4
                  case Ty4 => first | (intro w hSw; (try dsimp only at hSw); go_simp; done) | (intro w hSw; (try dsimp only at hSw); go_simp; with_reducible rfl)
                  case' Tr4 => try simp only [Act.put, List.setIfInBounds_toArray, List.set_cons_zero, List.set_cons_succ]
                  refine wpAnyH_ready (rs := [5]) (by kernel_rfl) (by simp) ?_
                  refine AllReadyH.consL rfl (fun K hK => ?_) AllReadyH.nil
                  go_simp
                  go_at_call 10
                  refine (blkof_some _ A n c b (HBR.out.ext ((Ext.refl _).drew)) y s HNO.out).mono ?_
                  rintro e w6 ⟨rfl, k6, hk6, rfl⟩
                  have b1 : decide ((k6 : Int) ≥ 0) = true := decide_eq_true (by omega)
                  have b2 : decide ((0 : Int) ≤ (k6 : Int)) = true := decide_eq_true (by omega)
                  clear hk6
                  refine hK.out _ _ ⟨by assumption, by assumption⟩ (fun hST1 => ?_)
                  clear hK K
                  try simp only [Act.put, List.setIfInBounds_toArray, List.set_cons_zero, List.set_cons_succ]
                  refine wpAnyH_takeL (i := 6) (v := ?Tv6) rfl (by kernel_rfl) (by kernel_rfl) (by kernel_rfl) (fun _ _ _ h => h) (Or.inl ⟨by rfl, ?Ty6⟩) (by assumption) ?Tr6
                  case Ty6 => first | (intro w hSw; (try dsimp only at hSw); go_simp; done) | (intro w hSw; (try dsimp only at hSw); go_simp; with_reducible rfl)
                  case' Tr6 => try simp only [Act.put, List.setIfInBounds_toArray, List.set_cons_zero, List.set_cons_succ]
                  refine wpAnyH_takeL (i := 7) (v := ?Tv7) rfl (by kernel_rfl) (by kernel_rfl) (by kernel_rfl) (fun _ _ _ h => h) (Or.inl ⟨by rfl, ?Ty7⟩) (by assumption) ?Tr7
                  case Ty7 => first | (intro w hSw; (try dsimp only at hSw); go_simp; done) | (intro w hSw; (try dsimp only at hSw); go_simp; with_reducible rfl)
                  case' Tr7 => try simp only [Act.put, List.setIfInBounds_toArray, List.set_cons_zero, List.set_cons_succ]
                  refine wpAnyH_takeL (i := 8) (v := ?Tv8) rfl (by kernel_rfl) (by kernel_rfl) (by kernel_rfl) (fun _ _ _ h => h) (Or.inl ⟨by rfl, ?Ty8⟩) (by assumption) ?Tr8
                  case Ty8 => first | (intro w hSw; (try dsimp only at hSw); go_simp; done) | (intro w hSw; (try dsimp only at hSw); go_simp; with_reducible rfl)
                  case' Tr8 => try simp only [Act.put, List.setIfInBounds_toArray, List.set_cons_zero, List.set_cons_succ]
                  refine wpAnyH_takeL (i := 9) (v := ?Tv9) rfl (by kernel_rfl) (by kernel_rfl) (by kernel_rfl) (fun _ _ _ h => h) (Or.inl ⟨by rfl, ?Ty9⟩) (by assumption) ?Tr9
                  case Ty9 => first | (intro w hSw; (try dsimp only at hSw); go_simp; done) | (intro w hSw; (try dsimp only at hSw); go_simp; with_reducible rfl)
                  case' Tr9 => try simp only [Act.put, List.setIfInBounds_toArray, List.set_cons_zero, List.set_cons_succ]
                  refine wpAnyH_takeL (i := 10) (v := ?Tv10) rfl (by kernel_rfl) (by kernel_rfl) (by kernel_rfl) (fun _ _ _ h => h) (Or.inl ⟨by rfl, ?Ty10⟩) (by assumption) ?Tr10
                  case Ty10 => first | (intro w hSw; (try dsimp only at hSw); go_simp; done) | (intro w hSw; (try dsimp only at hSw); go_simp; with_reducible rfl)
                  case' Tr10 => try simp only [Act.put, List.setIfInBounds_toArray, List.set_cons_zero, List.set_cons_succ]
                  refine wpAnyH_takeL (i := 11) (v := ?Tv11) rfl (by kernel_rfl) (by kernel_rfl) (by kernel_rfl) (fun _ _ _ h => h) (Or.inl ⟨by rfl, ?Ty11⟩) (by assumption) ?Tr11
                  case Ty11 => first | (intro w hSw; (try dsimp only at hSw); go_simp; done) | (intro w hSw; (try dsimp only at hSw); go_simp; with_reducible rfl)
                  case' Tr11 => try simp only [Act.put, List.setIfInBounds_toArray, List.set_cons_zero, List.set_cons_succ]
                  refine wpAnyH_takeL (i := 12) (v := ?Tv12) rfl (by kernel_rfl) (by kernel_rfl) (by kernel_rfl) (fun _ _ _ h => h) (Or.inl ⟨by rfl, ?Ty12⟩) (by assumption) ?Tr12
                  case Ty12 => first | (intro w hSw; (try dsimp only at hSw); go_simp; done) | (intro w hSw; (try dsimp only at hSw); go_simp; with_reducible rfl)
                  case' Tr12 => try simp only [Act.put, List.setIfInBounds_toArray, List.set_cons_zero, List.set_cons_succ]
                  refine wpAnyH_takeL (i := 13) (v := ?Tv13) rfl (by kernel_rfl) (by kernel_rfl) (by kernel_rfl) (fun _ _ _ h => h) (Or.inl ⟨by rfl, ?Ty13⟩) (by assumption) ?Tr13
                  case Ty13 => first | (intro w hSw; (try dsimp only at hSw); go_simp; done) | (intro w hSw; (try dsimp only at hSw); go_simp; with_reducible rfl)
                  case' Tr13 => try simp only [Act.put, List.setIfInBounds_toArray, List.set_cons_zero, List.set_cons_succ]
                  refine wpAnyH_ready (rs := [14]) (by kernel_rfl) (by simp) ?_
                  refine AllReadyH.consL rfl (fun K hK => ?_) AllReadyH.nil
                  go_simp
                  go_at_call 11
                  refine (has_any _ All bA j bc f.blocks (HBLR.out.ext ((Ext.refl _).drew)) y).mono ?_
                  rintro e w8 ⟨rfl, rfl⟩
                  rw [HYB.out]
                  refine hK.out _ _ ⟨by assumption, by assumption⟩ (fun hST2 => ?_)
                  clear hK K
                  try simp only [Act.put, List.setIfInBounds_toArray, List.set_cons_zero, List.set_cons_succ]
                  refine wpAnyH_takeL (i := 15) (v := ?Tv15) rfl (by kernel_rfl) (by kernel_rfl) (by kernel_rfl) (fun _ _ _ h => h) (Or.inl ⟨by rfl, ?Ty15⟩) (by assumption) ?Tr15
                  case Ty15 => first | (intro w hSw; (try dsimp only at hSw); go_simp; done) | (intro w hSw; (try dsimp only at hSw); go_simp; with_reducible rfl)
                  case' Tr15 => try simp only [Act.put, List.setIfInBounds_toArray, List.set_cons_zero, List.set_cons_succ]
                  refine wpAnyH_takeL (i := 16) (v := ?Tv16) rfl (by kernel_rfl) (by kernel_rfl) (by kernel_rfl) (fun _ _ _ h => h) (Or.inl ⟨by rfl, ?Ty16⟩) (by assumption) ?Tr16
                  case Ty16 => first | (intro w hSw; (try dsimp only at hSw); go_simp; done) | (intro w hSw; (try dsimp only at hSw); go_simp; with_reducible rfl)
                  case' Tr16 => try simp only [Act.put, List.setIfInBounds_toArray, List.set_cons_zero, List.set_cons_succ]
                  refine wpAnyH_done (by kernel_rfl) ?_ _
                  go_wp2
                  first
                    | go_roundw
                    | refine ⟨?rel, ?measure⟩
                  case rel => exact ⟨p + 1, by omega, by go_num, hid HXP.out.drew⟩
                  case measure => simp [intOf]; omega
              · obtain rfl : p = TO.length := by omega
                have hU3 : ∃ U3, U3 = wr := ⟨_, rfl⟩
                obtain ⟨U3, rfl⟩ := hU3
                have HX3 := hid (HXJ.out.trans HXP.out)
                have HSO3 := hid (HSO.out.ext HXP.out)
                clear h3
                go_wp2
                clear p2
                go_loopw [13] (fun i wr => ∃ q, q ≤ j ∧ i = .int .i64 q ∧ Hid (Ext U3 wr)) (fun i _ => j - (intOf i).toNat)
                case atStart => exact ⟨0, by omega, rfl, hid (Ext.refl _)⟩
                case round =>
                  obtain ⟨q, hq, rfl, HXQ⟩ := hrel
                  have HX4 := hid (HX3.out.trans HXQ.out)
                  have p2 := HX4.out.cell HP.out.2.1
                  by_cases h3 : q < j
                  · obtain ⟨x, hx⟩ : ∃ x, f.blocks[q]? = some x := ⟨_, List.getElem?_eq_getElem (by have := HNB.out; omega)⟩
                    obtain ⟨bq, oq, rfl, cx, hx32⟩ := Sl.num_at (HBL.out.ext HX4.out) hx
                    have p0 := HX4.out.cell HP.out.1
                    have hrx := (HFO.out.blocks x).1 (List.mem_of_getElem? hx)
                    have HSO4 := hid (HSO3.out.ext HXQ.out)
                    clear hx
                    by_cases hxa : x = a
                    · have n1 : ((x : Int) != (a : Int)) = false := by simp; omega
                      have n2 : ((x : Int) == (a : Int)) = true := by simp; omega
                      clear hxa hrx
                      go_upto_region 26 with fail
                      refine wp_region_held_drew (S := (fun w' => w'.cell? ⟨bq, oq + q, none⟩ = some (.int .u32 x) ∧ w'.cell? ⟨U.heap.size, 2, none⟩ = some (.slice (some ⟨bq, oq, none⟩) j bc) ∧ w'.cell? ⟨U.heap.size, 0, none⟩ = some (.int .u32 a))) (by kernel_rfl) ⟨cx, p2, p0⟩ (fun hSP0 => ?_)
                      refine wpAnyH_takeL (i := 0) (v := ?Pv0) rfl (by kernel_rfl) (by kernel_rfl) (by kernel_rfl) (fun _ _ _ h => h) (Or.inl ⟨by rfl, ?Py0⟩) (by assumption) ?Pr0
                      case Py0 => first | (intro w hSw; (try dsimp only at hSw); go_simp; done) | (intro w hSw; (try dsimp only at hSw); go_simp; with_reducible rfl)
                      case' Pr0 => try simp only [Act.put, List.setIfInBounds_toArray, List.set_cons_zero, List.set_cons_succ]
                      refine wpAnyH_takeL (i := 1) (v := ?Pv1) rfl (by kernel_rfl) (by kernel_rfl) (by kernel_rfl) (fun _ _ _ h => h) (Or.inl ⟨by rfl, ?Py1⟩) (by assumption) ?Pr1
                      case Py1 => first | (intro w hSw; (try dsimp only at hSw); go_simp; done) | (intro w hSw; (try dsimp only at hSw); go_simp; with_reducible rfl)
                      case' Pr1 => try simp only [Act.put, List.setIfInBounds_toArray, List.set_cons_zero, List.set_cons_succ]
                      refine wpAnyH_takeL (i := 2) (v := ?Pv2) rfl (by kernel_rfl) (by kernel_rfl) (by kernel_rfl) (fun _ _ _ h => h) (Or.inl ⟨by rfl, ?Py2⟩) (by assumption) ?Pr2
                      case Py2 => first | (intro w hSw; (try dsimp only at hSw); go_simp; done) | (intro w hSw; (try dsimp only at hSw); go_simp; with_reducible rfl)
                      case' Pr2 => try simp only [Act.put, List.setIfInBounds_toArray, List.set_cons_zero, List.set_cons_succ]
                      refine wpAnyH_takeL (i := 3) (v := ?Pv3) rfl (by kernel_rfl) (by kernel_rfl) (by kernel_rfl) (fun _ _ _ h => h) (Or.inl ⟨by rfl, ?Py3⟩) (by assumption) ?Pr3
                      case Py3 => first | (intro w hSw; (try dsimp only at hSw); go_simp; done) | (intro w hSw; (try dsimp only at hSw); go_simp; with_reducible rfl)
                      case' Pr3 => try simp only [Act.put, List.setIfInBounds_toArray, List.set_cons_zero, List.set_cons_succ]
                      refine wpAnyH_takeL (i := 4) (v := ?Pv4) rfl (by kernel_rfl) (by kernel_rfl) (by kernel_rfl) (fun _ _ _ h => h) (Or.inl ⟨by rfl, ?Py4⟩) (by assumption) ?Pr4
                      case Py4 => first | (intro w hSw; (try dsimp only at hSw); go_simp; done) | (intro w hSw; (try dsimp only at hSw); go_simp; with_reducible rfl)
                      case' Pr4 => try simp only [Act.put, List.setIfInBounds_toArray, List.set_cons_zero, List.set_cons_succ]
                      refine wpAnyH_takeL (i := 5) (v := ?Pv5) rfl (by kernel_rfl) (by kernel_rfl) (by kernel_rfl) (fun _ _ _ h => h) (Or.inl ⟨by rfl, ?Py5⟩) (by assumption) ?Pr5
                      case Py5 => first | (intro w hSw; (try dsimp only at hSw); go_simp; done) | (intro w hSw; (try dsimp only at hSw); go_simp; with_reducible rfl)
                      case' Pr5 => try simp only [Act.put, List.setIfInBounds_toArray, List.set_cons_zero, List.set_cons_succ]
                      refine wpAnyH_takeL (i := 6) (v := ?Pv6) rfl (by kernel_rfl) (by kernel_rfl) (by kernel_rfl) (fun _ _ _ h => h) (Or.inl ⟨by rfl, ?Py6⟩) (by assumption) ?Pr6
                      case Py6 => first | (intro w hSw; (try dsimp only at hSw); go_simp; done) | (intro w hSw; (try dsimp only at hSw); go_simp; with_reducible rfl)
                      case' Pr6 => try simp only [Act.put, List.setIfInBounds_toArray, List.set_cons_zero, List.set_cons_succ]
                      refine wpAnyH_takeL (i := 7) (v := ?Pv7) rfl (by kernel_rfl) (by kernel_rfl) (by kernel_rfl) (fun _ _ _ h => h) (Or.inl ⟨by rfl, ?Py7⟩) (by assumption) ?Pr7
                      case Py7 => first | (intro w hSw; (try dsimp only at hSw); go_simp; done) | (intro w hSw; (try dsimp only at hSw); go_simp; with_reducible rfl)
                      case' Pr7 => try simp only [Act.put, List.setIfInBounds_toArray, List.set_cons_zero, List.set_cons_succ]
                      refine wpAnyH_takeL (i := 8) (v := ?Pv8) rfl (by kernel_rfl) (by kernel_rfl) (by kernel_rfl) (fun _ _ _ h => h) (Or.inl ⟨by rfl, ?Py8⟩) (by assumption) ?Pr8
                      case Py8 => first | (intro w hSw; (try dsimp only at hSw); go_simp; done) | (intro w hSw; (try dsimp only at hSw); go_simp; with_reducible rfl)
                      case' Pr8 => try simp only [Act.put, List.setIfInBounds_toArray, List.set_cons_zero, List.set_cons_succ]
                      refine wpAnyH_takeL (i := 9) (v := undef) rfl (by kernel_rfl) (by kernel_rfl) (by kernel_rfl) (fun _ _ _ h => h) (Or.inr ⟨by rfl, rfl⟩) (by assumption) ?Pr9
                      case' Pr9 => try simp only [Act.put, List.setIfInBounds_toArray, List.set_cons_zero, List.set_cons_succ]
                      refine wpAnyH_takeL (i := 10) (v := undef) rfl (by kernel_rfl) (by kernel_rfl) (by kernel_rfl) (fun _ _ _ h => h) (Or.inr ⟨by rfl, rfl⟩) (by assumption) ?Pr10
                      case' Pr10 => try simp only [Act.put, List.setIfInBounds_toArray, List.set_cons_zero, List.set_cons_succ]
                      refine wpAnyH_takeL (i := 11) (v := undef) rfl (by kernel_rfl) (by kernel_rfl) (by kernel_rfl) (fun _ _ _ h => h) (Or.inr ⟨by rfl, rfl⟩) (by assumption) ?Pr11
                      case' Pr11 => try simp only [Act.put, List.setIfInBounds_toArray, List.set_cons_zero, List.set_cons_succ]
                      refine wpAnyH_takeL (i := 12) (v := undef) rfl (by kernel_rfl) (by kernel_rfl) (by kernel_rfl) (fun _ _ _ h => h) (Or.inr ⟨by rfl, rfl⟩) (by assumption) ?Pr12
                      case' Pr12 => try simp only [Act.put, List.setIfInBounds_toArray, List.set_cons_zero, List.set_cons_succ]
                      refine wpAnyH_takeL (i := 13) (v := undef) rfl (by kernel_rfl) (by kernel_rfl) (by kernel_rfl) (fun _ _ _ h => h) (Or.inr ⟨by rfl, rfl⟩) (by assumption) ?Pr13
                      case' Pr13 => try simp only [Act.put, List.setIfInBounds_toArray, List.set_cons_zero, List.set_cons_succ]
                      refine wpAnyH_takeL (i := 14) (v := undef) rfl (by kernel_rfl) (by kernel_rfl) (by kernel_rfl) (fun _ _ _ h => h) (Or.inr ⟨by rfl, rfl⟩) (by assumption) ?Pr14
                      case' Pr14 => try simp only [Act.put, List.setIfInBounds_toArray, List.set_cons_zero, List.set_cons_succ]
                      refine wpAnyH_ready (rs := [15]) (by kernel_rfl) (by simp) ?_
                      refine AllReadyH.consL rfl (fun K hK => ?_) AllReadyH.nil
                      refine cast (if_neg (fun h => Bool.noConfusion (show false = true from h))).symm ?_
                      refine hK.out _ _ (by assumption) (fun hSP1 => ?_)
                      clear hK K
                      try simp only [Act.put, List.setIfInBounds_toArray, List.set_cons_zero, List.set_cons_succ]
                      refine wpAnyH_takeL (i := 16) (v := undef) rfl (by kernel_rfl) (by kernel_rfl) (by kernel_rfl) (fun _ _ _ h => h) (Or.inr ⟨by rfl, rfl⟩) (by assumption) ?Pr16
                      case' Pr16 => try simp only [Act.put, List.setIfInBounds_toArray, List.set_cons_zero, List.set_cons_succ]
                      refine wpAnyH_takeL (i := 17) (v := ?Pv17) rfl (by kernel_rfl) (by kernel_rfl) (by kernel_rfl) (fun _ _ _ h => h) (Or.inl ⟨by rfl, ?Py17⟩) (by assumption) ?Pr17
                      case Py17 => first | (intro w hSw; (try dsimp only at hSw); go_simp; done) | (intro w hSw; (try dsimp only at hSw); go_simp; with_reducible rfl)
                      case' Pr17 => try simp only [Act.put, List.setIfInBounds_toArray, List.set_cons_zero, List.set_cons_succ]
                      refine wpAnyH_done (by kernel_rfl) ?_ _
                      go_wp2
                      first
                        | go_roundw
                        | refine ⟨?rel, ?measure⟩
                      case rel => exact ⟨q + 1, by omega, by go_num, hid HXQ.out.drew⟩
                      case measure => simp [intOf]; omega
                    · have n1 : ((x : Int) != (a : Int)) = true := by simp; omega
                      have n2 : ((x : Int) == (a : Int)) = false := by simp; omega
                      have hto : TO.contains x = true := by
                        obtain ⟨y, s, h5, h6, h7⟩ := hrx.prev hxa
                        rw [List.contains_iff_mem]
                        exact (HTO.out x).2 ⟨y, (HFO.out.blocks y).2 h5, s, h6, h7⟩
                      have HTOX := hid hto
                      clear hxa hrx hto
                      go_upto_region 26 with fail
                      refine wp_region_held_drew (S := (fun w' => w'.cell? ⟨bq, oq + q, none⟩ = some (.int .u32 x) ∧ w'.cell? ⟨U.heap.size, 2, none⟩ = some (.slice (some ⟨bq, oq, none⟩) j bc) ∧ w'.cell? ⟨U.heap.size, 0, none⟩ = some (.int .u32 a))) (by kernel_rfl) ⟨cx, p2, p0⟩ (fun hSQ0 => ?_)
                      refine wpAnyH_takeL (i := 0) (v := ?Qv0) rfl (by kernel_rfl) (by kernel_rfl) (by kernel_rfl) (fun _ _ _ h => h) (Or.inl ⟨by rfl, ?Qy0⟩) (by assumption) ?Qr0
                      case Qy0 => first | (intro w hSw; (try dsimp only at hSw); go_simp; done) | (intro w hSw; (try dsimp only at hSw); go_simp; with_reducible rfl)
                      case' Qr0 => try simp only [Act.put, List.setIfInBounds_toArray, List.set_cons_zero, List.set_cons_succ]
                      refine wpAnyH_takeL (i := 1) (v := ?Qv1) rfl (by kernel_rfl) (by kernel_rfl) (by kernel_rfl) (fun _ _ _ h => h) (Or.inl ⟨by rfl, ?Qy1⟩) (by assumption) ?Qr1
                      case Qy1 => first | (intro w hSw; (try dsimp only at hSw); go_simp; done) | (intro w hSw; (try dsimp only at hSw); go_simp; with_reducible rfl)
                      case' Qr1 => try simp only [Act.put, List.setIfInBounds_toArray, List.set_cons_zero, List.set_cons_succ]
                      refine wpAnyH_takeL (i := 2) (v := ?Qv2) rfl (by kernel_rfl) (by kernel_rfl) (by kernel_rfl) (fun _ _ _ h => h) (Or.inl ⟨by rfl, ?Qy2⟩) (by assumption) ?Qr2
                      case Qy2 => first | (intro w hSw; (try dsimp only at hSw); go_simp; done) | (intro w hSw; (try dsimp only at hSw); go_simp; with_reducible rfl)
                      case' Qr2 => try simp only [Act.put, List.setIfInBounds_toArray, List.set_cons_zero, List.set_cons_succ]
                      refine wpAnyH_takeL (i := 3) (v := ?Qv3) rfl (by kernel_rfl) (by kernel_rfl) (by kernel_rfl) (fun _ _ _ h => h) (Or.inl ⟨by rfl, ?Qy3⟩) (by assumption) ?Qr3
                      case Qy3 => first | (intro w hSw; (try dsimp only at hSw); go_simp; done) | (intro w hSw; (try dsimp only at hSw); go_simp; with_reducible rfl)
                      case' Qr3 => try simp only [Act.put, List.setIfInBounds_toArray, List.set_cons_zero, List.set_cons_succ]
                      refine wpAnyH_takeL (i := 4) (v := ?Qv4) rfl (by kernel_rfl) (by kernel_rfl) (by kernel_rfl) (fun _ _ _ h => h) (Or.inl ⟨by rfl, ?Qy4⟩) (by assumption) ?Qr4
                      case Qy4 => first | (intro w hSw; (try dsimp only at hSw); go_simp; done) | (intro w hSw; (try dsimp only at hSw); go_simp; with_reducible rfl)
                      case' Qr4 => try simp only [Act.put, List.setIfInBounds_toArray, List.set_cons_zero, List.set_cons_succ]
                      refine wpAnyH_takeL (i := 5) (v := ?Qv5) rfl (by kernel_rfl) (by kernel_rfl) (by kernel_rfl) (fun _ _ _ h => h) (Or.inl ⟨by rfl, ?Qy5⟩) (by assumption) ?Qr5
                      case Qy5 => first | (intro w hSw; (try dsimp only at hSw); go_simp; done) | (intro w hSw; (try dsimp only at hSw); go_simp; with_reducible rfl)
                      case' Qr5 => try simp only [Act.put, List.setIfInBounds_toArray, List.set_cons_zero, List.set_cons_succ]
                      refine wpAnyH_takeL (i := 6) (v := ?Qv6) rfl (by kernel_rfl) (by kernel_rfl) (by kernel_rfl) (fun _ _ _ h => h) (Or.inl ⟨by rfl, ?Qy6⟩) (by assumption) ?Qr6
                      case Qy6 => first | (intro w hSw; (try dsimp only at hSw); go_simp; done) | (intro w hSw; (try dsimp only at hSw); go_simp; with_reducible rfl)
                      case' Qr6 => try simp only [Act.put, List.setIfInBounds_toArray, List.set_cons_zero, List.set_cons_succ]
                      refine wpAnyH_takeL (i := 7) (v := ?Qv7) rfl (by kernel_rfl) (by kernel_rfl) (by kernel_rfl) (fun _ _ _ h => h) (Or.inl ⟨by rfl, ?Qy7⟩) (by assumption) ?Qr7
                      case Qy7 => first | (intro w hSw; (try dsimp only at hSw); go_simp; done) | (intro w hSw; (try dsimp only at hSw); go_simp; with_reducible rfl)
                      case' Qr7 => try simp only [Act.put, List.setIfInBounds_toArray, List.set_cons_zero, List.set_cons_succ]
                      refine wpAnyH_takeL (i := 8) (v := ?Qv8) rfl (by kernel_rfl) (by kernel_rfl) (by kernel_rfl) (fun _ _ _ h => h) (Or.inl ⟨by rfl, ?Qy8⟩) (by assumption) ?Qr8
                      case Qy8 => first | (intro w hSw; (try dsimp only at hSw); go_simp; done) | (intro w hSw; (try dsimp only at hSw); go_simp; with_reducible rfl)
                      case' Qr8 => try simp only [Act.put, List.setIfInBounds_toArray, List.set_cons_zero, List.set_cons_succ]
                      refine wpAnyH_takeL (i := 9) (v := ?Qv9) rfl (by kernel_rfl) (by kernel_rfl) (by kernel_rfl) (fun _ _ _ h => h) (Or.inl ⟨by rfl, ?Qy9⟩) (by assumption) ?Qr9
                      case Qy9 => first | (intro w hSw; (try dsimp only at hSw); go_simp; done) | (intro w hSw; (try dsimp only at hSw); go_simp; with_reducible rfl)
                      case' Qr9 => try simp only [Act.put, List.setIfInBounds_toArray, List.set_cons_zero, List.set_cons_succ]
                      refine wpAnyH_takeL (i := 10) (v := ?Qv10) rfl (by kernel_rfl) (by kernel_rfl) (by kernel_rfl) (fun _ _ _ h => h) (Or.inl ⟨by rfl, ?Qy10⟩) (by assumption) ?Qr10
                      case Qy10 => first | (intro w hSw; (try dsimp only at hSw); go_simp; done) | (intro w hSw; (try dsimp only at hSw); go_simp; with_reducible rfl)
                      case' Qr10 => try simp only [Act.put, List.setIfInBounds_toArray, List.set_cons_zero, List.set_cons_succ]
                      refine wpAnyH_takeL (i := 11) (v := ?Qv11) rfl (by kernel_rfl) (by kernel_rfl) (by kernel_rfl) (fun _ _ _ h => h) (Or.inl ⟨by rfl, ?Qy11⟩) (by assumption) ?Qr11
                      case Qy11 => first | (intro w hSw; (try dsimp only at hSw); go_simp; done) | (intro w hSw; (try dsimp only at hSw); go_simp; with_reducible rfl)
                      case' Qr11 => try simp only [Act.put, List.setIfInBounds_toArray, List.set_cons_zero, List.set_cons_succ]
                      refine wpAnyH_takeL (i := 12) (v := ?Qv12) rfl (by kernel_rfl) (by kernel_rfl) (by kernel_rfl) (fun _ _ _ h => h) (Or.inl ⟨by rfl, ?Qy12⟩) (by assumption) ?Qr12
                      case Qy12 => first | (intro w hSw; (try dsimp only at hSw); go_simp; done) | (intro w hSw; (try dsimp only at hSw); go_simp; with_reducible rfl)
                      case' Qr12 => try simp only [Act.put, List.setIfInBounds_toArray, List.set_cons_zero, List.set_cons_succ]
                      refine wpAnyH_takeL (i := 13) (v := ?Qv13) rfl (by kernel_rfl) (by kernel_rfl) (by kernel_rfl) (fun _ _ _ h => h) (Or.inl ⟨by rfl, ?Qy13⟩) (by assumption) ?Qr13
                      case Qy13 => first | (intro w hSw; (try dsimp only at hSw); go_simp; done) | (intro w hSw; (try dsimp only at hSw); go_simp; with_reducible rfl)
                      case' Qr13 => try simp only [Act.put, List.setIfInBounds_toArray, List.set_cons_zero, List.set_cons_succ]
                      refine wpAnyH_takeL (i := 14) (v := ?Qv14) rfl (by kernel_rfl) (by kernel_rfl) (by kernel_rfl) (fun _ _ _ h => h) (Or.inl ⟨by rfl, ?Qy14⟩) (by assumption) ?Qr14
                      case Qy14 => first | (intro w hSw; (try dsimp only at hSw); go_simp; done) | (intro w hSw; (try dsimp only at hSw); go_simp; with_reducible rfl)
                      case' Qr14 => try simp only [Act.put, List.setIfInBounds_toArray, List.set_cons_zero, List.set_cons_succ]
                      refine wpAnyH_ready (rs := [15]) (by kernel_rfl) (by simp) ?_
                      refine AllReadyH.consL rfl (fun K hK => ?_) AllReadyH.nil
                      go_simp
                      go_at_call 11
                      refine (has_any _ All A' TO.length c' TO (HSO4.out.ext ((Ext.refl _).drew)) x).mono ?_
                      rintro e w8 ⟨rfl, rfl⟩
                      rw [HTOX.out]
                      refine hK.out _ _ (by assumption) (fun hSQ1 => ?_)
                      clear hK K
                      try simp only [Act.put, List.setIfInBounds_toArray, List.set_cons_zero, List.set_cons_succ]
                      refine wpAnyH_takeL (i := 16) (v := ?Qv16) rfl (by kernel_rfl) (by kernel_rfl) (by kernel_rfl) (fun _ _ _ h => h) (Or.inl ⟨by rfl, ?Qy16⟩) (by assumption) ?Qr16
                      case Qy16 => first | (intro w hSw; (try dsimp only at hSw); go_simp; done) | (intro w hSw; (try dsimp only at hSw); go_simp; with_reducible rfl)
                      case' Qr16 => try simp only [Act.put, List.setIfInBounds_toArray, List.set_cons_zero, List.set_cons_succ]
                      refine wpAnyH_takeL (i := 17) (v := ?Qv17) rfl (by kernel_rfl) (by kernel_rfl) (by kernel_rfl) (fun _ _ _ h => h) (Or.inl ⟨by rfl, ?Qy17⟩) (by assumption) ?Qr17
                      case Qy17 => first | (intro w hSw; (try dsimp only at hSw); go_simp; done) | (intro w hSw; (try dsimp only at hSw); go_simp; with_reducible rfl)
                      case' Qr17 => try simp only [Act.put, List.setIfInBounds_toArray, List.set_cons_zero, List.set_cons_succ]
                      refine wpAnyH_done (by kernel_rfl) ?_ _
                      go_wp2
                      first
                        | go_roundw
                        | refine ⟨?rel, ?measure⟩
                      case rel => exact ⟨q + 1, by omega, by go_num, hid HXQ.out.drew⟩
                      case measure => simp [intOf]; omega
                  · obtain rfl : q = j := by omega
                    have p0 := HX4.out.cell HP.out.1
                    have p3 := HX4.out.cell HP.out.2.2.1
                    have p4 := HX4.out.cell HP.out.2.2.2
                    have HC1 : Hid (f.blocks.contains a = true) := hid (by rw [List.contains_iff_mem]; exact (HFO.out.blocks a).2 (.refl HIA.out))
                    have HC2 : Hid (es.contains a = true) := hid (by rw [List.contains_iff_mem]; exact HAE.out)
                    have HXF := hid (HXW.out.trans HX4.out)
                    clear h3
                    go_wp2_with fail
                    refine (has_any _ All bA q bc f.blocks (HBL.out.ext HX4.out) a).mono ?_
                    rintro e w8 ⟨rfl, rfl⟩
                    rw [HC1.out]
                    go_wp2_with fail
                    refine (has_any _ All E ne ce es (HEW.out.ext HX4.out) a).mono ?_
                    rintro e w8 ⟨rfl, rfl⟩
                    rw [HC2.out]
                    cases lf with
                    | false =>
                      go_wp2
                      first
                        | go_roundw
                        | refine ⟨?rel, ?measure⟩
                      case rel => exact ⟨k + 1, by omega, by go_num, HXF⟩
                      case measure => simp [intOf]; omega
                    | true =>
                      by_cases hc0 : nc = 0
                      · subst hc0
                        go_wp2
                        first
                          | go_roundw
                          | refine ⟨?rel, ?measure⟩
                        case rel => exact ⟨k + 1, by omega, by go_num, HXF⟩
                        case measure => simp [intOf]; omega
                      · have z1 : 0 < nc := by omega
                        have HCA : Hid ((b.any fun s => !s.calls.isEmpty) = true) := hid (by
                          cases hany : b.any fun s => !s.calls.isEmpty with
                          | true => rfl
                          | false =>
                            have h5 : ∀ s ∈ b, s.calls = [] := fun s hs => by
                              have := List.any_eq_false.1 hany s hs
                              simpa using this
                            have h6 := leaf_calls HFO.out HLF.out h5
                            have h7 := HNC.out
                            rw [h6] at h7
                            exact absurd h7.symm hc0)
                        clear hc0
                        go_wp2_with fail
                        refine (called_any _ A n c b (HBW.out.ext HX4.out)).mono ?_
                        rintro e w8 ⟨rfl, rfl⟩
                        rw [HCA.out]
                        go_wp2
                        first
                          | go_roundw
                          | refine ⟨?rel, ?measure⟩
                        case rel => exact ⟨k + 1, by omega, by go_num, HXF⟩
                        case measure => simp [intOf]; omega
      · obtain rfl : k = N := by omega
        clear mixed
        go_wp2_with fail
        refine (example_any _).mono ?_
        rintro e wz ⟨rfl, hxz⟩
        have HXZ := hid ((HX2.out.trans HX.out).trans hxz)
        clear hxz
        go_wp2
        go_ret
        exact ⟨rfl, HXZ.out⟩
  · have hfs := h0 hez
    subst hfs
    have hez2 : ((er : Int) != 0) = true := by simpa using hez
    clear h0 h1 hez mixed
    go_wp2_with fail
    refine (example_any _).mono ?_
    rintro e wz ⟨rfl, hxz⟩
    have HXZ := hid ((HX2.out).trans hxz)
    clear hxz
    go_wp2
    go_ret
    exact ⟨rfl, HXZ.out⟩
end Go.Proofs.YtnlmhnbogleijaaDoor
