/- coverage.Minimize. -/
import Derived.Test.YtcddmggefmfkkaaCovF
import Derived.Test.YtcddmggefmfkkaaCovM
namespace Go.Proofs.Ytcddmggefmfkkaa
open Go.RowKit Go.Deco
set_option linter.unusedSimpArgs false
set_option linter.unusedVariables false

set_option maxRecDepth 100000 in
set_option maxHeartbeats 1000000 in
theorem try_zero (bl bf bp : Nat) (w : World) (A' : Option Addr) (n' c' : Nat) (cl : w.cell? ⟨bl, 0, none⟩ = some (.int .i64 0)) :
    Calls Try.prog 40 #[.slice A' n' c', .pointer (some ⟨bl, 0, none⟩), .pointer (some ⟨bf, 0, none⟩), .pointer (some ⟨bp, 0, none⟩)] w fun e w' => e = .returned (.bool false) ∧ w' = w := by
  go_enter Try.func40, Try.ntmps40
  go_wp2
  go_ret
  exact ⟨rfl, rfl⟩

theorem run_equalIn_func {P : Program} (w : World) (d : Nat) (t : TypeId) {ps rs : Array TypeId} {va : Bool} (h : P.underlying t = some (.func ps rs va)) (f : Fn) (ts l : Array Value) : (Op.equalIn (d + 1) t (.func f ts l) .nilFunc).run P w = .ok false w := by
  simp [Op.equalIn, run_underlying h]
theorem run_eql_func {P : Program} (w : World) (t : TypeId) {ps rs : Array TypeId} {va : Bool} (h : P.underlying t = some (.func ps rs va)) (f : Fn) (ts l : Array Value) : (binOp .eql t (.func f ts l) .nilFunc).run P w = .ok (.bool false) w := by
  simp only [binOp]
  simp [Op.equal, Op.maxDepth, run_equalIn_func w 9999 t h f ts l]
theorem run_equalIn_nil {P : Program} (w : World) (d : Nat) (t : TypeId) {ps rs : Array TypeId} {va : Bool} (h : P.underlying t = some (.func ps rs va)) : (Op.equalIn (d + 1) t .nilFunc .nilFunc).run P w = .ok true w := by
  simp [Op.equalIn, run_underlying h]
theorem run_eql_nil {P : Program} (w : World) (t : TypeId) {ps rs : Array TypeId} {va : Bool} (h : P.underlying t = some (.func ps rs va)) : (binOp .eql t .nilFunc .nilFunc).run P w = .ok (.bool true) w := by
  simp only [binOp]
  simp [Op.equal, Op.maxDepth, run_equalIn_nil w 9999 t h]
theorem call_cm1 : ∀ args w, (callFunc 40 args).run Try.prog w = .ok (.enter 40 args) w := fun args w => callFunc_enter Try.func40 (by kernel_rfl) rfl args w

theorem grown_fr {w a b : World} {bl bp : Nat} {ob : Option Nat} (h : Ext w a) (k : Fr bl bp ob a b) (h1 : w.heap.size ≤ bl) (h2 : w.heap.size ≤ bp) : w.grownBy b ob :=
  let g := h.grownBy ob
  ⟨k.os.trans g.os, k.tape.trans g.tape, k.output.trans g.output, Nat.le_trans g.size k.size, fun i hi hne => (k.block i (Nat.lt_of_lt_of_le hi g.size) (by omega) (by omega) hne).trans (g.block i hi hne)⟩
theorem Mz.ext {bl bf bp : Nat} {ob : Option Nat} {g : FuncId} {lb : Array Value} {K : Nat → Prop} {P : List Nat → Bool} {J : Nat → World → Prop} (hF : FailsIs g lb ob K P J) {w w' : World} {A : Option Addr} {n c : Nat} {L : List Nat} {left : Nat} (h : Mz bl bf bp ob g lb J w A n c L left) (he : Ext w w') : Mz bl bf bp ob g lb J w' A n c L left where
  cl := he.cell h.cl
  fl := (he.frozen (World.block_lt_of_cell? _ _ h.cl)).trans h.fl
  cf := he.cell h.cf
  cp := he.cell h.cp
  fp := (he.frozen (World.block_lt_of_cell? _ _ h.cp)).trans h.fp
  sl := h.sl.ext he
  le := h.le
  j := hF.keep _ _ _ h.j fun b hb => he.block (hF.old _ _ b h.j hb)
def leftW (bl : Nat) (w : World) : Nat := match w.cell? ⟨bl, 0, none⟩ with
  | some (.int _ z) => z.toNat
  | _ => 0
theorem leftW_of {bl n : Nat} {w : World} (h : w.cell? ⟨bl, 0, none⟩ = some (.int .i64 (n : Nat))) : leftW bl w = n := by simp [leftW, h]
def chN : Value → Nat
  | .bool true => 1
  | _ => 0
/-- The two numbers that a reduction tries: where it stands. -/
structure RedAt (P : List Nat → Bool) (M : List Nat) (k x left0 idx left : Nat) : Prop where
  le : left ≤ left0
  zero : idx = 0 → left = left0
  one : idx = 1 → x ≠ 0 ∧ ¬ x ≤ 1 ∧ P (M.set k 0) = false ∧ left = left0 - 1
  two : idx = 2 → redK P M left0 k = (M, left)
/-- A list is handed back; the predicate's block alone has turned. -/
def MinPost (w : World) (ob : Option Nat) (J : Nat → World → Prop) (M : List Nat) (left : Nat) (e : Ending) (w' : World) : Prop :=
  w.grownBy w' ob ∧ J (1000 - left) w' ∧ ∃ A c, e = .returned (.slice A M.length c) ∧ Sl u32R w' (fun b => some b ≠ ob) (.slice A M.length c) M

set_option maxRecDepth 100000 in
set_option maxHeartbeats 1000000 in
theorem minimize_nil (w : World) (A : Option Addr) (n c : Nat) (l : List Nat) (hl : Sl u32R w All (.slice A n c) l) (hn : n ≤ 1000) :
    Calls Try.prog 20 #[.slice A n c, .nilFunc] w (ListOf w l) := by
  have HL := hid hl
  clear hl
  have hq := fun (w : World) => run_eql_nil (P := Try.prog) w 46 Try.underlying46
  obtain ⟨W0, hW0⟩ : ∃ W0, w.alloc (.cells #[.nilFunc] 46) = W0 := ⟨_, rfl⟩
  have hE0 : Ext w W0 := by rw [← hW0]; exact (Ext.refl w).alloc _
  have c0 : W0.cell? ⟨w.heap.size, 0, none⟩ = some .nilFunc := by rw [← hW0]; simp [go_sem]
  have HE0 := hid hE0
  have HC0 := hid c0
  clear hE0 c0
  go_enter Try.func20, Try.ntmps20
  go_wp2_with fail
  refine (clone32_any W0 All A n c l (HL.out.ext HE0.out) (by omega)).mono ?_
  rintro e w1 ⟨hx1, A1, c1, rfl, ho1⟩
  have hs0 : w.heap.size < W0.heap.size := by rw [← hW0]; simp
  have hlt : w.heap.size < w1.heap.size := Nat.lt_of_lt_of_le hs0 hx1.size
  have c0 := hx1.cell HC0.out
  have HX1 := hid ((HE0.out.trans hx1).alloc (.cells #[.slice A1 l.length c1] 23))
  have HS1 := hid (ho1.sl.ext ((Ext.refl w1).alloc (.cells #[.slice A1 l.length c1] 23)))
  clear hx1 ho1 hW0
  go_wp2
  go_ret
  exact ⟨HX1.out, A1, c1, rfl, HS1.out⟩

set_option maxRecDepth 100000 in
set_option maxHeartbeats 8000000 in
theorem minimize_any (ob : Option Nat) (K : Nat → Prop) (g : FuncId) (lb : Array Value) (P : List Nat → Bool) (J : Nat → World → Prop) (hF : FailsIs g lb ob K P J) (w : World) (A : Option Addr) (n c : Nat) (l : List Nat) (hl : Sl u32R w (fun b => some b ≠ ob) (.slice A n c) l) (hn : n ≤ 1000) (hj : J 0 w) :
    Calls Try.prog 20 #[.slice A n c, .func (.func g) #[] lb] w (MinPost w ob J (minimizeM P l).1 (minimizeM P l).2) := by
  have HL := hid hl
  have HN := hid hl.len
  have HF := hid hF
  have HJ := hid hj
  have hen := call_cm1
  have hq := fun (w : World) f ts l => run_eql_func (P := Try.prog) w 46 Try.underlying46 f ts l
  obtain ⟨T, hT⟩ : ∃ T, minimizeM P l = T := ⟨_, rfl⟩
  rw [hT]
  have HT := hid hT
  clear hl hF hj hT
  obtain ⟨W0, hW0⟩ : ∃ W0, w.alloc (.cells #[.func (.func g) #[] lb] 46) = W0 := ⟨_, rfl⟩
  have hE0 : Ext w W0 := by rw [← hW0]; exact (Ext.refl w).alloc _
  have c0 : W0.cell? ⟨w.heap.size, 0, none⟩ = some (.func (.func g) #[] lb) := by rw [← hW0]; simp [go_sem]
  have hs0 : W0.heap.size = w.heap.size + 1 := by rw [← hW0]; simp
  have HE0 := hid hE0
  have HC0 := hid c0
  have HS0 := hid hs0
  clear hE0 c0 hs0
  go_enter Try.func20, Try.ntmps20
  go_wp2_with fail
  refine (clone32_any W0 _ A n c l (HL.out.ext HE0.out) (by omega)).mono ?_
  rintro e w1 ⟨hx1, A1, c1, rfl, ho1⟩
  have hlt : w.heap.size < w1.heap.size := by have := hx1.size; have := HS0.out; omega
  have c0 := hx1.cell HC0.out
  have HX1 := hid hx1
  have HO1 := hid ho1
  clear hx1 ho1 hW0
  obtain ⟨W2, hW2⟩ : ∃ W2, (w1.alloc (.cells #[.slice A1 l.length c1] 23)).alloc (.cells #[.int .i64 1000] 3) = W2 := ⟨_, rfl⟩
  have hE2 : Ext w1 W2 := by rw [← hW2]; exact ((Ext.refl w1).alloc _).alloc _
  have hold : ∀ b, K b → b < w.heap.size := fun b hb => HF.out.old _ _ b HJ.out hb
  have cp : W2.cell? ⟨w1.heap.size, 0, none⟩ = some (.slice A1 l.length c1) := by rw [← hW2]; simp [go_sem]
  have HB : Hid (Boxes (w1.heap.size + 1) w.heap.size w1.heap.size ob K) := hid ⟨by omega, by omega, by omega, fun e => by have := hold _ (HF.out.sub _ e); omega, fun e => by have := hold _ (HF.out.sub _ e); omega, fun e => by have := hold _ (HF.out.sub _ e); omega, fun e => by have := hold _ e; omega, fun e => by have := hold _ e; omega⟩
  have HM2 : Hid (Mz (w1.heap.size + 1) w.heap.size w1.heap.size ob g lb J W2 A1 l.length c1 l (999 + 1)) := hid {
    cl := by rw [← hW2]; simp [go_sem]
    fl := by rw [← hW2]; simp [go_sem]
    cf := hE2.cell c0
    cp := cp
    fp := by rw [← hW2]; simp [go_sem]
    sl := ((HO1.out.num_sl (S := fun k => w.heap.size + 1 ≤ k) (fun k hk => by have := HS0.out; omega)).mono (S' := Off (w1.heap.size + 1) w.heap.size w1.heap.size ob) (fun b hb hc => ⟨by have := hc.lt; omega, by omega, by have := hc.lt; omega, fun e => by have := hold _ (HF.out.sub _ e); omega⟩)).ext hE2
    le := by omega
    j := HF.out.keep 0 w W2 HJ.out fun b hb => ((HE0.out.trans HX1.out).trans hE2).block (hold b hb) }
  have HE2 := hid ((HE0.out.trans HX1.out).trans hE2)
  have HLL := hid (show l.length ≤ 1000 by have := HN.out; omega)
  have HOLD := hid hold
  clear hE2 hold
  go_wp2_with fail
  refine (try_some _ _ _ ob K g lb P J HB.out HF.out W2 A1 l.length c1 l 999 HM2.out A1 l.length c1 l HM2.out.sl HLL.out).mono ?_
  rintro e w3 ⟨rfl, hfr, ht, hf⟩
  clear cp c0 hW2
  obtain ⟨bp, hbp⟩ : ∃ bp, w1.heap.size = bp := ⟨_, rfl⟩
  rw [hbp] at HB HM2 hfr ht hf hlt ⊢
  have HFR := hid hfr
  have HT0 := hid (show T = if P l then minM P 1000 l 999 else (l, 999) from HT.out.symm)
  obtain ⟨r, hr⟩ : ∃ r, P l = r := ⟨_, rfl⟩
  rw [hr] at HT0 ht hf ⊢
  have HP := hid hr
  clear hfr hr hbp
  cases r with
  | false =>
    have hM := hf rfl
    have HM3 := hid hM
    have hsl : Sl u32R w3 (fun b => some b ≠ ob) (.slice A n c) l := by
      refine ((HL.out.mono (S' := fun b => b < w.heap.size ∧ some b ≠ ob) (fun b hb hc => ⟨hc.lt, hb⟩)).keep (w' := w3) fun b hb hc => ?_).mono (fun b hb _ => hb.2)
      exact (HFR.out.block b (Nat.lt_of_lt_of_le hb.1 HE2.out.size) (by omega) (by omega) hb.2).trans (HE2.out.block hb.1)
    have HSL := hid hsl
    clear ht hf hM hsl
    go_wp2_with fail
    refine (clone32_any w3 _ A n c l HSL.out (by omega)).mono ?_
    rintro e w4 ⟨hx4, A4, c4, rfl, ho4⟩
    have hTe : T = (l, 999) := by rw [HT0.out]; rfl
    have hwl : w.heap.size ≤ w3.heap.size := Nat.le_trans HE2.out.size HFR.out.size
    have HG := hid (grown_fr HE2.out ((HFR.out.trans (Fr.of_ext hx4))) (by omega) (by omega))
    have HJ4 := hid (HF.out.keep _ _ w4 HM3.out.j fun b hb => hx4.block (Nat.lt_of_lt_of_le (HOLD.out b hb) hwl))
    have HS4 := hid (ho4.num_sl (S := fun b => some b ≠ ob) (fun k hk e => by have := HOLD.out k (HF.out.sub _ e); omega))
    subst hTe
    clear hx4 ho4
    go_wp2
    go_ret
    exact ⟨HG.out, HJ4.out, A4, c4, rfl, HS4.out⟩
  | true =>
    have hM := ht rfl
    have HM3 := hid hM
    have hTe : T = minM P 1000 l 999 := by rw [HT0.out]; rfl
    have HTE := hid hTe
    clear ht hf hM hTe
    go_wp2_with fail
    go_loopw [8] (fun v wr => ∃ (ch : Bool) (A' : Option Addr) (c' : Nat) (M : List Nat) (left : Nat), v = .bool ch ∧ left ≤ 999 ∧ M.length ≤ 1000 ∧ Hid (Mz (bp + 1) w.heap.size bp ob g lb J wr A' M.length c' M left) ∧ Hid (Fr (bp + 1) bp ob W2 wr) ∧ Hid ((ch = true → ∃ f, left ≤ f ∧ T = minM P f M left) ∧ (ch = false → T = (M, left)))) (fun v wr => 2 * leftW (bp + 1) wr + chN v)
    case atStart => exact ⟨true, A1, c1, l, 999, rfl, by omega, HLL.out, HM3, HFR, hid ⟨fun _ => ⟨1000, by omega, HTE.out⟩, fun h => (by cases h)⟩⟩
    case round =>
      obtain ⟨ch, A', c', M, left, rfl, hl9, hMl, HMZ, HFM, HTM⟩ := hrel
      have cl := HMZ.out.cl
      have cp := HMZ.out.cp
      cases ch with
      | false =>
        have hTe : T = (M, left) := HTM.out.2 rfl
        have HTe := hid hTe
        clear hTe
        go_wp2
        go_ret
        have e := HTe.out
        subst e
        exact ⟨grown_fr HE2.out HFM.out (by omega) (by omega), HMZ.out.j, A', c', rfl, HMZ.out.sl.mono (fun b hb _ => hb.2.2.2)⟩
      | true =>
        obtain ⟨f, hf, hTe⟩ := HTM.out.1 rfl
        by_cases h0 : left = 0
        · subst h0
          rw [minM_zero] at hTe
          have HTe := hid hTe
          clear hTe
          go_wp2
          go_ret
          have e := HTe.out
          subst e
          exact ⟨grown_fr HE2.out HFM.out (by omega) (by omega), HMZ.out.j, A', c', rfl, HMZ.out.sl.mono (fun b hb _ => hb.2.2.2)⟩
        · have HTe := hid hTe
          have hpos : 0 < left := by omega
          have hlw := leftW_of HMZ.out.cl
          obtain ⟨m0, hm0⟩ : ∃ m0, leftW (bp + 1) wr = m0 := ⟨_, rfl⟩
          have HLW := hid hlw
          clear hTe h0 hlw hm0
          go_wp2_with fail
          obtain ⟨R0, hR0⟩ : ∃ R0, R0 = M := ⟨_, rfl⟩
          obtain ⟨left0, hl0⟩ : ∃ left0, left0 = left := ⟨_, rfl⟩
          go_loopw [8, 9] (fun v8 v9 wr => ∃ (ch : Bool) (A' : Option Addr) (c' : Nat) (M : List Nat) (left k : Nat), v8 = .bool ch ∧ v9 = .int .i64 k ∧ left ≤ 999 ∧ M.length ≤ 1000 ∧ k ≤ 1000 ∧ Hid (Mz (bp + 1) w.heap.size bp ob g lb J wr A' M.length c' M left) ∧ Hid (Fr (bp + 1) bp ob W2 wr) ∧ Hid (delM P M left k = delM P R0 left0 0) ∧ Hid (Chg R0 left0 ch M left)) (fun v8 v9 wr => leftW (bp + 1) wr)
          case atStart => exact ⟨false, A', c', M, left, 0, rfl, rfl, hl9, hMl, by omega, HMZ, HFM, hid (by rw [hR0, hl0]), hid (by rw [hR0, hl0]; exact Chg.start _ _)⟩
          case round =>
            obtain ⟨ch, A3, c3, M3, left3, k, rfl, rfl, hl3, hM3, hk3, HMZ3, HFM3, HD3, HC3⟩ := hrel
            have cl := HMZ3.out.cl
            have cp := HMZ3.out.cp
            by_cases hkk : k < M3.length ∧ 0 < left3
            · obtain ⟨hk, hk0⟩ := hkk
              obtain ⟨m, rfl⟩ : ∃ m, left3 = m + 1 := ⟨left3 - 1, by omega⟩
              have hw : IntKind.i64.wrap ((k : Int) + 1) = (k : Int) + 1 := IntWalk.i64_in _ (by omega)
              go_wp2_with fail
              refine (clone32_any wr _ A3 M3.length c3 M3 HMZ3.out.sl (by omega)).mono ?_
              rintro e w5 ⟨hx5, A5, c5, rfl, ho5⟩
              have HX5 := hid hx5
              have HO5 := hid ho5
              have hcp5 := ho5.sl.cap.2
              have hd := delete32_any HO5.out hcp5 k hk
              have e1 : ((k + 1 : Nat) : Int) = (k : Int) + 1 := by simp
              rw [e1] at hd
              have HD := hid hd
              clear hx5 ho5 hcp5 hd e1 cl cp
              go_wp2_with fail
              refine HD.out.mono ?_
              rintro e w6 ⟨rfl, ho6, hg6⟩
              have HX6 := hid (HX5.out.grown hg6 (fun k hk => (HO5.out.block k hk).1))
              have hbl := World.block_lt_of_cell? _ _ HMZ3.out.cl
              have hbf := World.block_lt_of_cell? _ _ HMZ3.out.cf
              have hbp := World.block_lt_of_cell? _ _ HMZ3.out.cp
              have HS6 : Hid (Sl u32R w6 (Off (bp + 1) w.heap.size bp ob) (.slice A5 (M3.eraseIdx k).length c5) (M3.eraseIdx k)) := hid (ho6.num_sl (fun b hb => ⟨by simp at hbl; omega, by simp at hbf; omega, by simp at hbp; omega, fun e => by have := HF.out.old _ _ b HMZ3.out.j (HF.out.sub _ e); omega⟩))
              have HM6 := hid (HMZ3.out.ext HF.out HX6.out)
              have hel : (M3.eraseIdx k).length = M3.length - 1 := List.length_eraseIdx_of_lt hk
              have hel2 : (M3.eraseIdx k).length ≤ 1000 := by omega
              clear ho6 hg6 hbl hbf hbp hel
              go_wp2_with fail
              refine (try_some _ _ _ ob K g lb P J HB.out HF.out w6 A3 M3.length c3 M3 m HM6.out A5 _ c5 (M3.eraseIdx k) HS6.out hel2).mono ?_
              rintro e w7 ⟨rfl, hfr7, ht7, hf7⟩
              have HFR7 := hid (HFM3.out.trans ((Fr.of_ext HX6.out).trans hfr7))
              obtain ⟨r, hr⟩ : ∃ r, P (M3.eraseIdx k) = r := ⟨_, rfl⟩
              rw [hr] at ht7 hf7 ⊢
              have HR := hid hr
              clear hfr7 hr
              cases r with
              | true =>
                have HM7 := hid (ht7 rfl)
                clear ht7 hf7
                go_wp2
                first
                  | go_roundw
                  | refine ⟨?rel, ?measure⟩
                case rel => exact ⟨true, A5, c5, M3.eraseIdx k, m, k, rfl, rfl, by omega, hel2, hk3, HM7, HFR7, hid (by rw [← HD3.out, delM_yes hk HR.out]), hid (HC3.out.hit (by omega) (wt_erase hk) (by have := List.length_eraseIdx_of_lt hk; omega))⟩
                case measure => rw [leftW_of HM7.out.cl, leftW_of HMZ3.out.cl]; omega
              | false =>
                have HM7 := hid (hf7 rfl)
                clear ht7 hf7
                go_wp2
                first
                  | go_roundw
                  | refine ⟨?rel, ?measure⟩
                case rel => exact ⟨ch, A3, c3, M3, m, k + 1, rfl, by go_num, by omega, hM3, by omega, HM7, HFR7, hid (by rw [← HD3.out, delM_no hk HR.out]), hid (HC3.out.fail (by omega))⟩
                case measure => rw [leftW_of HM7.out.cl, leftW_of HMZ3.out.cl]; omega
            · have hend : delM P M3 left3 k = (M3, left3) := delM_end (by omega)
              have hrd : roundM P R0 left0 = redM P M3.length M3 left3 0 := by
                rw [roundM, ← HD3.out, hend]
              have HRD := hid hrd
              have hor : (¬ k < M3.length) ∨ (k < M3.length ∧ left3 = 0) := by omega
              clear hend hrd
              rcases hor with hk | ⟨hk, rfl⟩
              all_goals go_wp2_with fail
              all_goals clear cl cp hk hkk
              all_goals
                obtain ⟨N, hN⟩ : ∃ N, M3.length = N := ⟨_, rfl⟩
                have HN3 := hid hN
                clear hN
                go_loopw [8, 10] (fun v8 v10 wr => ∃ (ch : Bool) (A' : Option Addr) (c' : Nat) (M : List Nat) (left k : Nat), v8 = .bool ch ∧ v10 = .int .i64 k ∧ left ≤ 999 ∧ M.length ≤ 1000 ∧ k ≤ N ∧ Hid (M.length = N) ∧ Hid (Mz (bp + 1) w.heap.size bp ob g lb J wr A' M.length c' M left) ∧ Hid (Fr (bp + 1) bp ob W2 wr) ∧ Hid (redM P (N - k) M left k = roundM P R0 left0) ∧ Hid (Chg R0 left0 ch M left)) (fun v8 v10 wr => N - (intOf v10).toNat)
                case atStart => exact ⟨ch, A3, c3, M3, _, 0, rfl, rfl, by omega, hM3, by omega, HN3, HMZ3, HFM3, hid (by rw [HRD.out, HN3.out]; rfl), HC3⟩
                case round =>
                  obtain ⟨ch4, A4, c4, M4, left4, k4, rfl, rfl, hl4, hM4, hk4, HN4, HMZ4, HFM4, HD4, HC4⟩ := hrel
                  have cl := HMZ4.out.cl
                  have cp := HMZ4.out.cp
                  by_cases hkk4 : k4 < N ∧ 0 < left4
                  · obtain ⟨hk, hl0'⟩ := hkk4
                    have hkM : k4 < M4.length := by have := HN4.out; omega
                    obtain ⟨x, hx⟩ : ∃ x, M4[k4]? = some x := ⟨_, List.getElem?_eq_getElem hkM⟩
                    obtain ⟨b4, off4, rfl, cx, hx32⟩ := HMZ4.out.sl.num_at hx
                    have HX4 := hid hx
                    clear hx
                    obtain ⟨W4, hW4⟩ : ∃ W4, wr.alloc (.cells #[.int .u32 0, .int .u32 ((x : Int) / 2)] 36) = W4 := ⟨_, rfl⟩
                    have hE4 : Ext wr W4 := by rw [← hW4]; exact (Ext.refl wr).alloc _
                    have q0 : W4.cell? ⟨wr.heap.size, 0, none⟩ = some (.int .u32 0) := by rw [← hW4]; simp [go_sem]
                    have q1 : W4.cell? ⟨wr.heap.size, 1, none⟩ = some (.int .u32 ((x : Int) / 2)) := by rw [← hW4]; simp [go_sem]
                    have HE4 := hid hE4
                    have HQ0 := hid q0
                    have HQ1 := hid q1
                    have HMW := hid (HMZ4.out.ext HF.out hE4)
                    have HFW := hid (HFM4.out.trans (Fr.of_ext hE4))
                    clear hE4 q0 q1
                    go_wp2_with fail
                    clear hW4 cl cp cx
                    have hlbp : bp + 1 < wr.heap.size := by have := World.block_lt_of_cell? _ _ HMZ4.out.cl; simpa using this
                    have hlbf : w.heap.size < wr.heap.size := by have := World.block_lt_of_cell? _ _ HMZ4.out.cf; simpa using this
                    have hlob : ∀ b, K b → b < wr.heap.size := fun b hb => HF.out.old _ _ b HMZ4.out.j hb
                    have HLOB := hid hlob
                    clear hlob
                    obtain ⟨q4, hq4⟩ : ∃ q4, wr.heap.size = q4 := ⟨_, rfl⟩
                    rw [hq4] at HQ0 HQ1 HLOB hlbp hlbf ⊢
                    clear hq4
                    go_loopw [8, 66] (fun v8 v66 wr => ∃ (idx left : Nat), v8 = .bool ch4 ∧ v66 = .int .i64 idx ∧ idx ≤ 2 ∧ left ≤ 999 ∧ Hid (RedAt P M4 k4 x left4 idx left) ∧ Hid (Mz (bp + 1) w.heap.size bp ob g lb J wr (some ⟨b4, off4, none⟩) M4.length c4 M4 left) ∧ Hid (Fr (bp + 1) bp ob W2 wr) ∧ Hid (wr.cell? ⟨q4, 0, none⟩ = some (.int .u32 0) ∧ wr.cell? ⟨q4, 1, none⟩ = some (.int .u32 ((x : Int) / 2)))) (fun _ v66 _ => 2 - (intOf v66).toNat)
                    case atStart => exact ⟨0, left4, rfl, rfl, by omega, hl4, hid ⟨Nat.le_refl _, fun _ => rfl, fun h => (by cases h), fun h => (by cases h)⟩, HMW, HFW, hid ⟨HQ0.out, HQ1.out⟩⟩
                    case round =>
                      obtain ⟨idx, left5, rfl, rfl, hi2, hl5, HRA, HM5, HF5, HQ⟩ := hrel
                      have hnext : ∀ M' left', redK P M4 left4 k4 = (M', left') → redM P (N - (k4 + 1)) M' left' (k4 + 1) = roundM P R0 left0 := by
                        intro M' left' h
                        rw [← HD4.out, show N - k4 = (N - (k4 + 1)) + 1 by omega, redM_step hl0', h]
                      have HNX := hid hnext
                      clear hnext
                      have hi3 : idx = 0 ∨ idx = 1 ∨ idx = 2 := by omega
                      rcases hi3 with rfl | rfl | rfl
                      · have hl := HRA.out.zero rfl
                        subst hl
                        have cl := HM5.out.cl
                        have cp := HM5.out.cp
                        have q0 := HQ.out.1
                        obtain ⟨b', off', hA, cx, -⟩ := HM5.out.sl.num_at HX4.out
                        cases hA
                        by_cases hx0 : x = 0
                        · subst hx0
                          have hn := HNX.out _ _ (redK_zero HX4.out)
                          have HN5 := hid hn
                          clear hn
                          go_wp2
                          first
                            | go_roundw
                            | refine ⟨?rel, ?measure⟩
                          case rel => exact ⟨ch4, _, c4, M4, left5, k4 + 1, rfl, by go_num, hl5, hM4, by omega, HN4, HM5, HF5, HN5, HC4⟩
                          case measure => simp [intOf]; omega
                        · have hx0' : ¬ ((x : Int) = 0) := by omega
                          obtain ⟨m5, rfl⟩ : ∃ m5, left5 = m5 + 1 := ⟨left5 - 1, by omega⟩
                          go_wp2_with fail
                          refine (clone32_any wr _ _ M4.length c4 M4 HM5.out.sl (by omega)).mono ?_
                          rintro e w6 ⟨hx6, A6, c6, rfl, ho6⟩
                          obtain ⟨g6, rfl, hg6, hg6l⟩ := ho6.at0 (by omega)
                          have hcc := ho6.num_cell HX4.out
                          have y0 := hcc.1
                          have y1 := hcc.2
                          have HSET := hid (ho6.num_set (x := 0) (by omega) k4)
                          have HX6 := hid (hx6.setCell (p := ⟨g6, k4, none⟩) hg6 (.int .u32 ((0 : Nat) : Int)))
                          have hbl := World.block_lt_of_cell? _ _ HM5.out.cl
                          have hbf := World.block_lt_of_cell? _ _ HM5.out.cf
                          have hbp := World.block_lt_of_cell? _ _ HM5.out.cp
                          have HS6 := hid (HSET.out.num_sl (S := Off (bp + 1) w.heap.size bp ob) (fun b hb => ⟨by simp at hbl; omega, by simp at hbf; omega, by simp at hbp; omega, fun e => by have := HF.out.old _ _ b HM5.out.j (HF.out.sub _ e); omega⟩))
                          have HM6 := hid (HM5.out.ext HF.out HX6.out)
                          have HQL := hid (World.block_lt_of_cell? _ _ HQ.out.1)
                          clear hcc hx6 ho6 hbl hbf hbp
                          go_wp2_with fail
                          refine (try_some _ _ _ ob K g lb P J HB.out HF.out _ _ M4.length c4 M4 m5 HM6.out (some ⟨g6, 0, none⟩) M4.length c6 (M4.set k4 0) HS6.out hM4).mono ?_
                          rintro e w7 ⟨rfl, hfr7, ht7, hf7⟩
                          have HFR7 := hid ((Fr.of_ext HX6.out).trans hfr7)
                          obtain ⟨r, hr⟩ : ∃ r, P (M4.set k4 0) = r := ⟨_, rfl⟩
                          rw [hr] at ht7 hf7 ⊢
                          have HR := hid hr
                          clear hfr7 hr cl cp cx q0 y0 y1
                          cases r with
                          | true =>
                            have HM7 := hid (ht7 rfl)
                            have HN5 := hid (HNX.out _ _ (redK_hit HX4.out hx0 HR.out))
                            have HM8 : Hid (Mz (bp + 1) w.heap.size bp ob g lb J w7 (some ⟨g6, 0, none⟩) (M4.set k4 0).length c6 (M4.set k4 0) m5) := hid (by rw [List.length_set]; exact HM7.out)
                            clear ht7 hf7
                            go_wp2
                            first
                              | go_roundw
                              | refine ⟨?rel, ?measure⟩
                            case rel => exact ⟨true, _, c6, M4.set k4 0, m5, k4 + 1, rfl, by go_num, by omega, by rw [List.length_set]; exact hM4, by omega, hid (by rw [List.length_set]; exact HN4.out), HM8, hid (HF5.out.trans HFR7.out), HN5, hid (HC4.out.hit (by omega) (wt_set HX4.out (by omega)) (by rw [List.length_set]; exact Nat.le_refl _))⟩
                            case measure => simp [intOf]; omega
                          | false =>
                            have HM7 := hid (hf7 rfl)
                            clear ht7 hf7
                            have cp := HM7.out.cp
                            obtain ⟨b', off', hA, cx, -⟩ := HM7.out.sl.num_at HX4.out
                            cases hA
                            have hqq := HFR7.out.block q4 HQL.out (by omega) (by omega) (fun e => by have := HLOB.out _ (HF.out.sub _ e); omega)
                            have HQ7 := hid (And.intro ((World.cell?_of_block (a := ⟨q4, 0, none⟩) hqq).trans HQ.out.1) ((World.cell?_of_block (a := ⟨q4, 1, none⟩) hqq).trans HQ.out.2))
                            clear hqq
                            by_cases hx1 : x ≤ 1
                            · have HN5 := hid (HNX.out _ _ (redK_one HX4.out hx0 HR.out hx1))
                              go_wp2
                              first
                                | go_roundw
                                | refine ⟨?rel, ?measure⟩
                              case rel => exact ⟨ch4, _, c4, M4, m5, k4 + 1, rfl, by go_num, by omega, hM4, by omega, HN4, HM7, hid (HF5.out.trans HFR7.out), HN5, hid (HC4.out.fail (by omega))⟩
                              case measure => simp [intOf]; omega
                            · go_wp2
                              first
                                | go_roundw
                                | refine ⟨?rel, ?measure⟩
                              case rel =>
                                (repeat apply Exists.intro)
                                refine ⟨?_, rfl⟩
                                exact ⟨1, m5, rfl, rfl, by omega, by omega, hid ⟨by omega, fun h => (by cases h), fun _ => ⟨hx0, hx1, HR.out, rfl⟩, fun h => (by cases h)⟩, HM7, hid (HF5.out.trans HFR7.out), HQ7⟩
                              case measure => simp [intOf]
                      · obtain ⟨hx0, hx1, hp0, hl⟩ := HRA.out.one rfl
                        have cl := HM5.out.cl
                        have cp := HM5.out.cp
                        have q1 := HQ.out.2
                        obtain ⟨y, hy⟩ : ∃ y, x / 2 = y := ⟨_, rfl⟩
                        rw [show (x : Int) / 2 = ((y : Nat) : Int) by omega] at q1
                        have hyx : y < x := by omega
                        have hy32 : y < 4294967296 := by omega
                        have HY := hid hy
                        have HL5 := hid hl
                        have HP0 := hid hp0
                        obtain ⟨b', off', hA, cx, -⟩ := HM5.out.sl.num_at HX4.out
                        cases hA
                        have hx0' : ¬ ((x : Int) = 0) := by omega
                        clear hy hl hp0
                        go_wp2_with fail
                        refine (clone32_any wr _ _ M4.length c4 M4 HM5.out.sl (by omega)).mono ?_
                        rintro e w6 ⟨hx6, A6, c6, rfl, ho6⟩
                        obtain ⟨g6, rfl, hg6, hg6l⟩ := ho6.at0 (by omega)
                        have hcc := ho6.num_cell HX4.out
                        have y0 := hcc.1
                        have y1 := hcc.2
                        have HSET := hid (ho6.num_set (x := y) hy32 k4)
                        have HX6 := hid (hx6.setCell (p := ⟨g6, k4, none⟩) hg6 (.int .u32 ((y : Nat) : Int)))
                        have hbl := World.block_lt_of_cell? _ _ HM5.out.cl
                        have hbf := World.block_lt_of_cell? _ _ HM5.out.cf
                        have hbp := World.block_lt_of_cell? _ _ HM5.out.cp
                        have HS6 := hid (HSET.out.num_sl (S := Off (bp + 1) w.heap.size bp ob) (fun b hb => ⟨by simp at hbl; omega, by simp at hbf; omega, by simp at hbp; omega, fun e => by have := HF.out.old _ _ b HM5.out.j (HF.out.sub _ e); omega⟩))
                        have HM6 := hid (HM5.out.ext HF.out HX6.out)
                        have HQL := hid (World.block_lt_of_cell? _ _ HQ.out.1)
                        clear hcc hx6 ho6 hbl hbf hbp
                        go_wp2_with fail
                        rcases left5 with _ | m5
                        · refine (try_zero (bf := w.heap.size) (bp + 1) bp _ (some ⟨g6, 0, none⟩) M4.length c6 HM6.out.cl).mono ?_
                          rintro e w7 ⟨rfl, hw7⟩
                          subst hw7
                          have HM7 := HM6
                          clear cl cp cx q1 y0 y1
                          have cp := HM7.out.cp
                          obtain ⟨b', off', hA, cx, -⟩ := HM7.out.sl.num_at HX4.out
                          cases hA
                          have hqq := HX6.out.block HQL.out
                          have HQ7 := hid (And.intro ((World.cell?_of_block (a := ⟨q4, 0, none⟩) hqq).trans HQ.out.1) ((World.cell?_of_block (a := ⟨q4, 1, none⟩) hqq).trans HQ.out.2))
                          clear hqq
                          go_wp2
                          first
                            | go_roundw
                            | refine ⟨?rel, ?measure⟩
                          case rel =>
                            first
                              | exact ⟨2, 0, rfl, by go_num, by omega, by omega, hid ⟨by omega, fun h => (by cases h), fun h => (by cases h), fun _ => redK_out HX4.out hx0 HP0.out hx1 HL5.out.symm⟩, HM7, hid (HF5.out.trans (Fr.of_ext HX6.out)), HQ7⟩
                              | ((repeat apply Exists.intro)
                                 refine ⟨?_, rfl⟩
                                 exact ⟨2, 0, rfl, rfl, by omega, by omega, hid ⟨by omega, fun h => (by cases h), fun h => (by cases h), fun _ => redK_out HX4.out hx0 HP0.out hx1 HL5.out.symm⟩, HM7, hid (HF5.out.trans (Fr.of_ext HX6.out)), HQ7⟩)
                          case measure => simp [intOf]
                        · refine (try_some _ _ _ ob K g lb P J HB.out HF.out _ _ M4.length c4 M4 m5 HM6.out (some ⟨g6, 0, none⟩) M4.length c6 (M4.set k4 y) HS6.out hM4).mono ?_
                          rintro e w7 ⟨rfl, hfr7, ht7, hf7⟩
                          have HFR7 := hid ((Fr.of_ext HX6.out).trans hfr7)
                          obtain ⟨r, hr⟩ : ∃ r, P (M4.set k4 y) = r := ⟨_, rfl⟩
                          rw [hr] at ht7 hf7 ⊢
                          have HR := hid (show P (M4.set k4 (x / 2)) = r by rw [HY.out]; exact hr)
                          have HLM := hid (show m5 = left4 - 2 by have := HL5.out; omega)
                          have HLN := hid (show left4 - 1 ≠ 0 by have := HL5.out; omega)
                          clear hfr7 hr cl cp cx q1 y0 y1
                          cases r with
                          | true =>
                            have HM7 := hid (ht7 rfl)
                            have HN5 := hid (HNX.out (M4.set k4 y) m5 ((redK_half HX4.out hx0 HP0.out hx1 HLN.out HR.out).trans (by rw [HY.out, HLM.out])))
                            have HM8 : Hid (Mz (bp + 1) w.heap.size bp ob g lb J w7 (some ⟨g6, 0, none⟩) (M4.set k4 y).length c6 (M4.set k4 y) m5) := hid (by rw [List.length_set]; exact HM7.out)
                            have hle4 := HRA.out.le
                            clear ht7 hf7
                            go_wp2
                            first
                              | go_roundw
                              | refine ⟨?rel, ?measure⟩
                            case rel => exact ⟨true, _, c6, M4.set k4 y, m5, k4 + 1, rfl, by go_num, by omega, by rw [List.length_set]; exact hM4, by omega, hid (by rw [List.length_set]; exact HN4.out), HM8, hid (HF5.out.trans HFR7.out), HN5, hid (HC4.out.hit (by omega) (wt_set HX4.out hyx) (by rw [List.length_set]; exact Nat.le_refl _))⟩
                            case measure => simp [intOf]; omega
                          | false =>
                            have HM7 := hid (hf7 rfl)
                            have hle4 := HRA.out.le
                            clear ht7 hf7
                            have cp := HM7.out.cp
                            obtain ⟨b', off', hA, cx, -⟩ := HM7.out.sl.num_at HX4.out
                            cases hA
                            have hqq := HFR7.out.block q4 HQL.out (by omega) (by omega) (fun e => by have := HLOB.out _ (HF.out.sub _ e); omega)
                            have HQ7 := hid (And.intro ((World.cell?_of_block (a := ⟨q4, 0, none⟩) hqq).trans HQ.out.1) ((World.cell?_of_block (a := ⟨q4, 1, none⟩) hqq).trans HQ.out.2))
                            have HRD : Hid (redK P M4 left4 k4 = (M4, m5)) := hid (by rw [HLM.out]; exact redK_miss HX4.out hx0 HP0.out hx1 HLN.out HR.out)
                            clear hqq
                            go_wp2
                            first
                              | go_roundw
                              | refine ⟨?rel, ?measure⟩
                            case rel =>
                              first
                                | exact ⟨2, m5, rfl, by go_num, by omega, by omega, hid ⟨by omega, fun h => (by cases h), fun h => (by cases h), fun _ => HRD.out⟩, HM7, hid (HF5.out.trans HFR7.out), HQ7⟩
                                | ((repeat apply Exists.intro)
                                   refine ⟨?_, rfl⟩
                                   exact ⟨2, m5, rfl, rfl, by omega, by omega, hid ⟨by omega, fun h => (by cases h), fun h => (by cases h), fun _ => HRD.out⟩, HM7, hid (HF5.out.trans HFR7.out), HQ7⟩)
                            case measure => simp [intOf]
                      · have hr := HRA.out.two rfl
                        have hn := HNX.out _ _ hr
                        have HN5 := hid hn
                        clear hr hn
                        go_wp2
                        first
                          | go_roundw
                          | refine ⟨?rel, ?measure⟩
                        case rel => exact ⟨ch4, _, c4, M4, left5, k4 + 1, rfl, by go_num, hl5, hM4, by omega, HN4, HM5, HF5, HN5, hid (HC4.out.fail HRA.out.le)⟩
                        case measure => simp [intOf]; omega
                  · have hend : redM P (N - k4) M4 left4 k4 = (M4, left4) := by
                      rcases Nat.eq_zero_or_pos left4 with h | h
                      · subst h
                        exact redM_end
                      · rw [show N - k4 = 0 by omega, redM]
                    have hround : roundM P R0 left0 = (M4, left4) := HD4.out.symm.trans hend
                    have HRO := hid hround
                    have hor : (¬ k4 < M4.length) ∨ (k4 < M4.length ∧ left4 = 0) := by have := HN4.out; omega
                    clear hend hround
                    rcases hor with hk | ⟨hk, rfl⟩
                    all_goals go_wp2
                    all_goals first
                      | go_roundw
                      | refine ⟨?rel, ?measure⟩
                    all_goals first
                      | (refine ⟨ch4, A4, c4, M4, _, rfl, by omega, hM4, HMZ4, HFM4, hid ⟨fun h => ?_, fun h => ?_⟩⟩
                         · subst h
                           obtain ⟨f', rfl⟩ : ∃ f', f = f' + 1 := ⟨f - 1, by omega⟩
                           have h1 := (HC4.out.yes rfl).2
                           refine ⟨f', by omega, ?_⟩
                           rw [HTe.out, ← hR0, ← hl0, minM_go (by rw [HRO.out]; exact HC4.out.ne), HRO.out]
                         · subst h
                           obtain ⟨f', rfl⟩ : ∃ f', f = f' + 1 := ⟨f - 1, by omega⟩
                           have h1 := HC4.out.no rfl
                           rw [HTe.out, ← hR0, ← hl0, minM_same (by rw [HRO.out]; exact h1), HRO.out])
                      | (rw [leftW_of HMZ4.out.cl, HLW.out]
                         cases ch4 with
                         | false => have := HC4.out.le; simp [chN] <;> omega
                         | true => have := (HC4.out.yes rfl).2; simp [chN] <;> omega)
end Go.Proofs.Ytcddmggefmfkkaa
