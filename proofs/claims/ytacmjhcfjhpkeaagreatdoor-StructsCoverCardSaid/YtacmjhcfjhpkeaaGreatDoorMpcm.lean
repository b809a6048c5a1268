/- A map from ints to rows of fields that a call owns: each in a block of its own. structs.Conflicts. -/
import Derived.Test.YtacmjhcfjhpkeaaGreatDoorPlam
import Derived.Test.YtacmjhcfjhpkeaaGreatDoorRfPm
import Derived.Test.YtacmjhcfjhpkeaaGreatDoorStrCm
namespace Go.Proofs.YtacmjhcfjhpkeaaGreatDoor
open Go.RowKit Go.Deco Go.Maps
set_option linter.unusedSimpArgs false
set_option linter.unusedVariables false
theorem wf_i64 {x : Int} (h : i64b x) : (Lit.int .i64 x).wf = true := by
 unfold i64b at h
 simp [Lit.wf, IntKind.min, IntKind.max, IntKind.signed, IntKind.bits]
 omega
theorem wf_i64' {x : Int} (h : (Lit.int .i64 x).wf = true) : i64b x := by
 unfold i64b
 simp [Lit.wf, IntKind.min, IntKind.max, IntKind.signed, IntKind.bits] at h
 omega
def intK {P : Program} {k : TypeId} (hk : P.underlying k = some (.int .i64)) : KeyG P k Int where
 lit x := .int .i64 x
 val x := .int .i64 x
 ok x := i64b x
 inj h := by injection h
 key h := keyOf_int_mk hk (wf_i64 h)
 inv h := by
  obtain ⟨x, rfl, rfl, hw⟩ := Maps.keyOf_int_inv hk h
  exact ⟨x, wf_i64' hw, rfl, rfl⟩
 law := int_keyed hk
def rowV (f : Int → Option Value) (b : Int) : Value := (f b).getD (.slice none 0 0)
def Non (_ : Nat) : Prop := False
/-- Block mb is a map that holds the rows F, the blocks from B on. -/
def MapP (f : Int → Option Value) (w : World) (B mb n : Nat) (F : Int → List (Int × Ty)) : Prop :=
 MapG (intK Tryz.underlying3) w mb n f ∧ (∀ b, OwnS (fdR (tyR 1)) w B 48 Non (rowV f b) (F b)) ∧ ∀ b b' q, b ≠ b' → (rowV f b).ownBlock = some q → (rowV f b').ownBlock ≠ some q
theorem own_cells {E : Type} {R : Rep E} {w : World} {base : Nat} {e : TypeId} {T : Nat → Prop} {v : Value} {l : List E} (h : OwnS R w base e T v l) {q : Nat} (hq : v.ownBlock = some q) : IsCells w q := by
 obtain ⟨xs, ho, -⟩ := h
 rcases ho.2 with ⟨rfl, _⟩ | ⟨g, cap, cur, rfl, hb, hg, _⟩
 ·simp [Value.ownBlock] at hq
 ·simp only [Value.ownBlock, Option.some.injEq] at hq
  subst hq
  exact ⟨_, _, _, hg⟩
section
variable {f : Int → Option Value} {w w' : World} {B mb n : Nat} {F : Int → List (Int × Ty)}
theorem MapP.made (w : World) (hB : B ≤ w.heap.size) : MapP (fun _ => none) (w.alloc (.map #[] 0)) B w.heap.size 0 (fun _ => []) :=
 ⟨MapG.made (intK Tryz.underlying3) w, fun _ => OwnS.nil, fun _ _ _ _ h => by simp [rowV, Value.ownBlock] at h⟩
theorem MapP.ext (h : MapP f w B mb n F) (he : Ext w w') : MapP f w' B mb n F := ⟨h.1.ext he, fun b => (h.2.1 b).ext he, h.2.2⟩
theorem MapP.mono (h : MapP f w B mb n F) {n' : Nat} (hn : n ≤ n') : MapP f w B mb n' F := ⟨h.1.mono hn, h.2⟩
theorem MapP.same {F' : Int → List (Int × Ty)} (h : MapP f w B mb n F) (he : ∀ b, F' b = F b) : MapP f w B mb n F' := ⟨h.1, fun b => by rw [he]; exact h.2.1 b, h.2.2⟩
theorem map_look (h : MapG (intK Tryz.underlying3) w mb n f) {b : Int} (hb : i64b b) : (Instr.lookup 68 (.map (some mb)) (.int .i64 b) false).run Tryz.prog w = .ok (rowV f b) w := by
 obtain ⟨D, h1, h2⟩ := h
 have hrun := (ownsMap_look h1 (intK Tryz.underlying3).law Tryz.underlying68 (z := .slice none 0 0) (Tryz.zeroValue23 w) ((intK Tryz.underlying3).key hb)).1
 rw [← h2] at hrun
 exact hrun
/-- A row grown by one field, and put back. -/
theorem MapP.step {W' W'' : World} {A' : Option Addr} {m c' : Nat} {o : Obj} {xb : Int} {y : Int × Ty} (h : MapP f w B mb n F) (hs : OwnS (fdR (tyR 1)) W' B 48 Non (.slice A' m c') (F xb ++ [y])) (hg : (w.alloc o).grownBy W' (rowV f xb).ownBlock)
  (hl : (Value.slice A' m c').ownBlock = (rowV f xb).ownBlock ∨ ∀ b, (Value.slice A' m c').ownBlock = some b → w.heap.size + 1 ≤ b)
  (hm : MapG (intK Tryz.underlying3) W'' mb (n + 1) (fun j => if j = xb then some (.slice A' m c') else f j)) (hg2 : W'.grownBy W'' (some mb)) :
  MapP (fun j => if j = xb then some (.slice A' m c') else f j) W'' B mb (n + 1) (fun j => if j = xb then F xb ++ [y] else F j) := by
 have hm1 : MapG (intK Tryz.underlying3) W' mb n f := (h.1.ext ((Ext.refl w).alloc o)).kept hg (fun e => (h.1.ne (own_cells (h.2.1 xb) e.symm)) rfl)
 have hx : rowV (fun j => if j = xb then some (.slice A' m c') else f j) xb = .slice A' m c' := by simp [rowV]
 have hy : ∀ b, b ≠ xb → rowV (fun j => if j = xb then some (.slice A' m c') else f j) b = rowV f b := fun b hb => by simp [rowV, hb]
 have key : ∀ b, b ≠ xb → ∀ q, (Value.slice A' m c').ownBlock = some q → (rowV f b).ownBlock ≠ some q := by
  intro b hb q hq e
  rcases hl with hl | hl
  ·rw [hl] at hq
   exact h.2.2 b xb q hb e hq
  ·have h1 := hl q hq
   have h2 := ((h.2.1 b).block q e).2
   omega
 have nem : ∀ {v : Value} {l : List (Int × Ty)}, OwnS (fdR (tyR 1)) W' B 48 Non v l → v.ownBlock = none ∨ v.ownBlock ≠ some mb := fun {v l} hv => .inr fun e => hm1.ne (own_cells hv e) rfl
 refine ⟨hm, fun b => ?_, fun b b' q hbb hq => ?_⟩
 ·by_cases hb : b = xb
  ·subst hb
   rw [hx]
   simp only [if_true]
   exact hs.kept hg2 (nem hs) (fun _ h => h.elim)
  ·rw [hy b hb]
   simp only [if_neg hb]
   have h1 : OwnS (fdR (tyR 1)) W' B 48 Non (rowV f b) (F b) := ((h.2.1 b).al o).kept hg (by
    cases ho : (rowV f b).ownBlock with
    | none => exact .inl rfl
    | some q => exact .inr fun e => h.2.2 b xb q hb ho e.symm) (fun _ h => h.elim)
   exact h1.kept hg2 (nem h1) (fun _ h => h.elim)
 ·by_cases hb : b = xb
  ·subst hb
   rw [hx] at hq
   rw [hy b' (Ne.symm hbb)]
   exact key b' (Ne.symm hbb) q hq
  ·rw [hy b hb] at hq
   by_cases hb' : b' = xb
   ·subst hb'
    rw [hx]
    exact fun e => key b hb q e hq
   ·rw [hy b' hb']
    exact h.2.2 b b' q hbb hq
end
end Go.Proofs.YtacmjhcfjhpkeaaGreatDoor

namespace Go.Proofs.YtacmjhcfjhpkeaaGreatDoor
open Go.RowKit Go.Deco Go.Maps
set_option linter.unusedSimpArgs false
set_option linter.unusedVariables false
theorem mapP_snoc {f : Int → Option Value} {w : World} {B mb n : Nat} {l : List Acc} {k : Nat} {x : Acc} (hx : l[k]? = some x) (hv : validA x = true)
  (h : MapP f w B mb n (fun j => if j = x.base then baseP (l.take k) x.base ++ [partA x] else baseP (l.take k) j)) : MapP f w B mb n (baseP (l.take (k + 1))) :=
 h.same fun b => by
  rw [baseP_snoc hx]
  by_cases hb : b = x.base
  ·subst hb; rw [if_pos ⟨hv, rfl⟩]; simp
  ·rw [if_neg (fun h => hb h.2.symm)]; simp [hb]
theorem mapP_skip {f : Int → Option Value} {w : World} {B mb n : Nat} {l : List Acc} {k : Nat} {x : Acc} (hx : l[k]? = some x) (hv : validA x = false)
  (h : MapP f w B mb n (baseP (l.take k))) : MapP f w B mb (n + 1) (baseP (l.take (k + 1))) :=
 (h.mono (Nat.le_succ n)).same fun b => by rw [baseP_snoc hx, if_neg (by rw [hv]; simp)]
set_option maxRecDepth 100000 in
set_option maxHeartbeats 8000000 in
theorem sconfl_any (w : World) (A : Option Addr) (n c : Nat) (l : List Acc) (hl : Sl accR w All (.slice A n c) l) (hn : n ≤ 1000) :
  Calls Tryz.prog 18 #[.slice A n c] w (ConfIs w (conflA l)) := by
 have hln := hl.len
 have HLN := hid hln
 have HL := hid hl
 obtain ⟨j0, hj, hj0, hj1, hj2⟩ := info_parts info_int34
 have HJ := hid hj
 have HJ0 := hid hj0
 have HJ1 := hid hj1
 have HJ2 := hid hj2
 obtain ⟨i0, hj, hj0, hj1, hj2⟩ := info_parts info_fd
 have HI := hid hj
 have HI0 := hid hj0
 have HI1 := hid hj1
 have HI2 := hid hj2
 clear hj hj0 hj1 hj2 hln hl
 unfold ConfIs
 have hmm := @run_makeMap Tryz.prog
 go_enter Tryz.func18, Tryz.ntmps18
 go_wp2
 clear hmm
 go_loopw [16] (fun i wr => ∃ (k : Nat) (f : Int → Option Value), k ≤ n ∧ i = .int .i64 k ∧ Hid (MapP f wr w.heap.size w.heap.size k (baseP (l.take k))) ∧ Hid (Ext w wr)) (fun i _ => n - (intOf i).toNat)
 case atStart => exact ⟨0, fun _ => none, by omega, rfl, hid (MapP.made w (Nat.le_refl _)), hid ((Ext.refl _).alloc _)⟩
 case round =>
  obtain ⟨k, f, hk, rfl, HM, HX⟩ := hrel
  by_cases h1 : k < n
  case neg =>
   have hkn : ¬ (k : Int) < (n : Int) := by omega
   obtain rfl : n = k := by omega
   have hm := HM.out
   rw [List.take_of_length_le (by have := HLN.out; omega)] at hm
   have HMB := hid hm
   obtain ⟨wB, hwB⟩ : ∃ wB, wB = wr := ⟨_, rfl⟩
   obtain rfl := hwB
   have HXB := hid HX.out
   clear hm HM HX
   go_wp2
   go_loopw [36, 6] (fun i s6 wr => ∃ (k m : Nat) (A4 : Option Addr) (c4 : Nat) (X : List Nat), k ≤ n ∧ m ≤ 1000 * k ∧ i = .int .i64 k ∧ s6 = .slice A4 m c4 ∧ Hid (conflP l k = X ∧ X.length = m) ∧ Hid (OwnS offR wr wB.heap.size 3 All (.slice A4 m c4) X) ∧ Hid (Ext wB wr)) (fun i _ _ => n - (intOf i).toNat)
   case atStart => exact ⟨0, 0, none, 0, [], by omega, by omega, rfl, rfl, hid ⟨rfl, rfl⟩, hid OwnS.nil, hid (Ext.refl _)⟩
   case round =>
    obtain ⟨k, m, A4, c4, X, hk, hm, rfl, rfl, HXE, HO, HX⟩ := hrel
    by_cases h1 : k < n
    case neg =>
     have hkn : ¬ (k : Int) < (n : Int) := by omega
     obtain rfl : n = k := by omega
     go_wp2
     go_ret
     have hx := HXE.out.1
     rw [HLN.out, conflP_all] at hx
     rw [hx, HXE.out.2]
     exact ⟨A4, c4, rfl, HO.out.sl, HXB.out.trans HX.out⟩
    obtain ⟨x, hx⟩ : ∃ x, l[k]? = some x := ⟨_, List.getElem?_eq_getElem (by have := HLN.out; omega)⟩
    obtain ⟨b, off, rfl, x0, x1, x2, x3, hi0, hi1, hi2⟩ := (HL.out.ext (HXB.out.trans HX.out)).acc_at hx
    have hst := conflP_step hx
    rw [HXE.out.1] at hst
    obtain ⟨z, hz⟩ : ∃ z, validA x = z := ⟨_, rfl⟩
    have HVC := hid (fun (w' : World) => valid_any w' x)
    rw [hz] at HVC hst
    have HST := hid hst
    have hhe := hits_eq l x
    obtain ⟨G, hG⟩ : ∃ G, groupsF (baseP l x.base) = G := ⟨_, rfl⟩
    have hgl := groups_len (baseP l x.base)
    have hga := groups_all (P := fun f => 0 ≤ f.1 ∧ f.1 ≤ 131072) (p := baseP l x.base) (fun f hf => baseP_mem hf)
    have hbl := baseP_len l x.base
    rw [hG] at hhe hgl hga
    have HHE := hid hhe
    have HG := hid hG
    have HGA := hid hga
    have HGL : Hid (G.length ≤ 1000) := hid (by have := HLN.out; omega)
    have hval : z = true → 0 ≤ x.off ∧ x.off ≤ 65532 := fun h => by have := valid_iff.1 (hz.trans h); exact ⟨this.2.1, this.2.2⟩
    have HVAL := hid hval
    have HBI := hid hi0
    obtain ⟨HP, hHP⟩ : ∃ HP, hitP x = HP := ⟨_, rfl⟩
    rw [hHP] at HHE
    have HHP : Hid (∀ g, HP g = ((fieldG g).2 && decide ((fieldG g).1.1 ≤ x.off) && decide (x.off < endF (fieldG g).1))) := hid (fun g => by rw [← hHP]; rfl)
    obtain ⟨H, hH⟩ : ∃ H, hitsA l x = H := ⟨_, rfl⟩
    rw [hH] at HST HHE
    unfold accV at HVC
    obtain ⟨xb, xo, xw, xs⟩ := x
    simp only at x0 x1 x2 x3 HVC HG HGA HGL HVAL HHP HBI
    have hkn : (k : Int) < (n : Int) := by omega
    clear hx hi0 hi1 hi2 hz hst hhe hG hgl hga hbl hval hHP hH
    go_upto_region 12 with fail
    obtain ⟨Wb, hWb⟩ : ∃ Wb, wr.alloc (.cells #[.int .i64 xb, .int .i64 xo, .int .i64 xw, .bool xs] 59) = Wb := ⟨_, rfl⟩
    rw [hWb]
    have hEb : Ext wr Wb := by rw [← hWb]; exact (Ext.refl wr).alloc _
    have q0 : Wb.cell? ⟨wr.heap.size, 0, none⟩ = some (.int .i64 xb) := by rw [← hWb]; simp [go_sem]
    have q1 : Wb.cell? ⟨wr.heap.size, 1, none⟩ = some (.int .i64 xo) := by rw [← hWb]; simp [go_sem]
    have q2 : Wb.cell? ⟨wr.heap.size, 2, none⟩ = some (.int .i64 xw) := by rw [← hWb]; simp [go_sem]
    have q3 : Wb.cell? ⟨wr.heap.size, 3, none⟩ = some (.bool xs) := by rw [← hWb]; simp [go_sem]
    have HEb := hid hEb
    have HQ : Hid (IsCells Wb wr.heap.size) := hid (isCells_of q0)
    clear hWb hEb x0 x1 x2 x3
    go_wp2_with fail
    refine (HVC.out _).mono ?_
    rintro e w5 ⟨rfl, hx5⟩
    have HR5 := hid (HEb.out.trans hx5)
    have HX5 := hid (HX.out.trans HR5.out)
    have HO5 := hid (HO.out.ext HR5.out)
    have q0 := hx5.cell q0
    have q1 := hx5.cell q1
    have q2 := hx5.cell q2
    have q3 := hx5.cell q3
    clear hx5
    cases z with
    | false =>
     have HST2 : Hid (conflP l (k + 1) = X) := hid (by rw [HST.out]; simp)
     clear q0 q1 q2 q3
     go_wp2
     first
      | go_roundw
      | refine ⟨?rel, ?measure⟩
     case rel => exact ⟨k + 1, m, A4, c4, X, by omega, by omega, by go_num, rfl, hid ⟨HST2.out, HXE.out.2⟩, HO5, HX5⟩
     case measure => simp [intOf]; omega
    | true =>
    have HST2 : Hid (conflP l (k + 1) = X ++ List.replicate H k) := hid (by rw [HST.out]; simp)
    obtain ⟨hxo0, hxo1⟩ := HVAL.out rfl
    have HM5 := hid (HMB.out.ext HX5.out)
    obtain ⟨Av, cv, hfv, -, -⟩ := (HM5.out.2.1 xb).form
    obtain ⟨ml, hml⟩ : ∃ ml, (baseP l xb).length = ml := ⟨_, rfl⟩
    have hmlb : ml ≤ 1000 := by have := baseP_len l xb; have := HLN.out; omega
    rw [hml] at hfv
    have hsb : Sl (fdR (tyR 1)) w5 (fun b => b < wB.heap.size) (.slice Av ml cv) (baseP l xb) := by
     have h := HM5.out.2.1 xb
     have h2 := HMB.out.2.1 xb
     rw [hfv] at h h2
     exact h.slT (fun _ h => h.elim) (fun q hq => (h2.block q hq).2)
    have HGC := hid (groups_any 1 (fun b => b < wB.heap.size) w5 Av ml cv (baseP l xb) (fun b hb => Nat.lt_of_lt_of_le hb HX5.out.size) hsb (by omega) (fun f hf => baseP_mem hf))
    unfold GroupsIs at HGC
    rw [HG.out] at HGC
    obtain ⟨ng, hng⟩ : ∃ ng, G.length = ng := ⟨_, rfl⟩
    rw [hng] at HGC HGL
    have HNG := hid hng
    have hngb := HGL.out
    have HFV : Hid ((f xb).getD (.slice none 0 0) = .slice Av ml cv) := hid hfv
    clear hsb hng hfv hml
    go_wp2_with (first
     | (at_lookup; refine wpList_look _ rfl (.tmp 44) (.tmp 46) 68 rfl 23 Tryz.underlying68 (.slice none 0 0) (Tryz.zeroValue23 _) (intK Tryz.underlying3) w.heap.size n f rfl HM5.out.1 xb rfl HBI.out (.slice Av ml cv) HFV.out ?_)
     | fail)
    refine (HGC.out).mono ?_
    rintro e wg ⟨AG, cg, rfl, hsg, hxg⟩
    have HXG := hid (HX5.out.trans hxg)
    have HSG := hid (hsg.mono (S' := fun b => b < wB.heap.size ∨ w5.heap.size ≤ b ∧ b < wg.heap.size) fun b hb hi => by
     rcases hb with hb | hb
     ·exact .inl hb
     ·exact .inr ⟨hb, hi.lt⟩)
    have HOG := hid (HO5.out.ext hxg)
    obtain ⟨wo, hwo⟩ : ∃ wo, wo = wr := ⟨_, rfl⟩
    obtain rfl := hwo
    have HW5 := hid (Nat.lt_of_lt_of_le HQ.out.lt (by have h1 := HR5.out.size; have h2 := World.block_lt_of_cell? _ _ q1; exact Nat.le_refl _) : wo.heap.size < Wb.heap.size)
    have HLT5 : Hid (wo.heap.size < w5.heap.size) := hid (World.block_lt_of_cell? _ _ q1)
    have HOB0 : Hid (∀ q, (Value.slice A4 m c4).ownBlock = some q → q < wo.heap.size ∨ wg.heap.size ≤ q) := hid (fun q hq => .inl (HO.out.block q hq).2)
    have HGSZ : Hid (w5.heap.size ≤ wg.heap.size) := hid hxg.size
    have HCW : Hid (wg.cell? ⟨wo.heap.size, 1, none⟩ = some (.int .i64 xo)) := hid (hxg.cell q1)
    clear hsg hxg HGC q0 q1 q2 q3 HW5
    go_wp2
    go_loopw [50, 6] (fun i s3 wr => ∃ (j m2 : Nat) (A7 : Option Addr) (c7 : Nat) (Y : List Nat), j ≤ ng ∧ m2 ≤ 1000 * k + j ∧ i = .int .i64 j ∧ s3 = .slice A7 m2 c7 ∧ Hid (Y = X ++ List.replicate ((G.take j).filter HP).length k ∧ Y.length = m2) ∧ Hid (OwnS offR wr wB.heap.size 3 All (.slice A7 m2 c7) Y) ∧ Hid (Ext wB wr) ∧ Hid (Fr wo.heap.size wg.heap.size wg wr) ∧ Hid (∀ q, (Value.slice A7 m2 c7).ownBlock = some q → q < wo.heap.size ∨ wg.heap.size ≤ q)) (fun i _ _ => ng - (intOf i).toNat)
    case atStart => exact ⟨0, m, A4, c4, X, by omega, by omega, rfl, rfl, hid ⟨by simp, HXE.out.2⟩, HOG, HXG, hid Fr.refl, HOB0⟩
    case round =>
     obtain ⟨j, m2, A7, c7, Y, hj, hm2, rfl, rfl, HOL, HOY, HXK, HFR, HOB⟩ := hrel
     by_cases h3 : j < ng
     case neg =>
      have hjg : ¬ (j : Int) < (ng : Int) := by omega
      obtain rfl : j = ng := by omega
      have hy := HOL.out.1
      rw [List.take_of_length_le (by have := HNG.out; omega), ← HHE.out] at hy
      have HY := hid hy
      clear hy
      go_wp2
      first
       | go_roundw
       | refine ⟨?rel, ?measure⟩
      case rel => exact ⟨k + 1, m2, A7, c7, Y, by omega, by omega, by go_num, rfl, hid ⟨by rw [HST2.out, HY.out], HOL.out.2⟩, HOY, HXK⟩
      case measure => simp [intOf]; omega
     obtain ⟨g, hg⟩ : ∃ g, G[j]? = some g := ⟨_, List.getElem?_eq_getElem (by have := HNG.out; omega)⟩
     obtain ⟨bg, og, cs, rfl, ⟨vg, rfl, hvg⟩, hcs⟩ := (HSG.out.keep (w' := wr) (fun b hb _ => by
      rcases hb with hb | hb
      ·exact ((HXK.out.block hb).trans (HXG.out.block hb).symm)
      ·exact HFR.out.same b (Nat.le_trans (Nat.le_of_lt HLT5.out) hb.1) hb.2)).get hg
     obtain ⟨A3, c3, rfl, hc3, hc4⟩ := hvg.form
     have p0 := hcs 0 _ rfl
     rw [show j * (slR (fdR (tyR 1))).size + 0 = j by simp [slR]] at p0
     have hgm := HGA.out g (List.mem_of_getElem? hg)
     have HFC := hid (field_any 1 wr All A3 g.length c3 g hvg.all (List.length_pos_iff.2 hgm.1) (by have := hgm.2.2; have := baseP_len l xb; have := HLN.out; omega) hgm.2.1)
     have hfo : 0 ≤ (fieldG g).1.1 ∧ (fieldG g).1.1 ≤ 131072 := by
      obtain ⟨y, hy, e⟩ := fieldG_off hgm.1
      rw [e]; exact hgm.2.1 y hy
     have hhit := HHP.out g
     obtain ⟨f, hf⟩ : ∃ f, fieldG g = f := ⟨_, rfl⟩
     rw [hf] at HFC hfo hhit
     obtain ⟨gl, hgl⟩ : ∃ gl, g.length = gl := ⟨_, rfl⟩
     rw [hgl] at p0 HFC
     have hcnt : ((G.take (j + 1)).filter HP).length = ((G.take j).filter HP).length + (if HP g = true then 1 else 0) := by
      rw [take_snoc' hg, List.filter_append, List.length_append]
      by_cases h : HP g = true <;> simp [h]
     obtain ⟨hp, hhp⟩ : ∃ hp, HP g = hp := ⟨_, rfl⟩
     rw [hhp] at hhit hcnt
     obtain ⟨⟨fo, ft⟩, fb⟩ := f
     simp only at HFC hfo hhit
     have HHIT0 := hid hhit
     have HCNT0 := hid hcnt
     have x1 := (World.cell?_of_block (w := wg) (HFR.out.same wo.heap.size (Nat.le_refl _) (Nat.lt_of_lt_of_le HLT5.out HGSZ.out))).trans HCW.out
     have hjg : (j : Int) < (ng : Int) := by omega
     clear hcs hvg hg hgm hf hgl hc3 hc4 hhit hcnt hhp
     go_wp2_with fail
     refine (HFC.out).mono ?_
     rintro e w3 ⟨_, rfl, ⟨A5, n5, c5, B5, m5, e5, rfl, hi5, hv5⟩, hx3⟩
     have HFD := hid (fun (w' : World) (hw : Ext w3 w') => (FdV.ext ⟨A5, n5, c5, B5, m5, e5, rfl, hi5, hv5.all⟩ hw : FdV (1 + 1) w' All (.agg #[.int .i64 fo, .int .i64 ft.kind, .int .i64 ft.size, .int .i64 ft.count, .slice A5 n5 c5, .slice B5 m5 e5]) (fo, ft)))
     have HEC := hid (fun (w' : World) (hw : Ext w3 w') => end_any (1 + 1) w' (fo, ft) _ (HFD.out w' hw) hfo.1 hfo.2)
     obtain ⟨en, hen⟩ : ∃ en, endF (fo, ft) = en := ⟨_, rfl⟩
     rw [hen] at HEC
     obtain ⟨W2, hW2⟩ : ∃ W2, w3.alloc (.cells #[.int .i64 fo, .int .i64 ft.kind, .int .i64 ft.size, .int .i64 ft.count, .slice A5 n5 c5, .slice B5 m5 e5] 48) = W2 := ⟨_, rfl⟩
     have hE2 : Ext w3 W2 := by rw [← hW2]; exact (Ext.refl _).alloc _
     have q0 : W2.cell? ⟨w3.heap.size, 0, none⟩ = some (.int .i64 fo) := by rw [← hW2]; simp [go_sem]
     have q1 : W2.cell? ⟨w3.heap.size, 1, none⟩ = some (.int .i64 ft.kind) := by rw [← hW2]; simp [go_sem]
     have q2 : W2.cell? ⟨w3.heap.size, 2, none⟩ = some (.int .i64 ft.size) := by rw [← hW2]; simp [go_sem]
     have q3 : W2.cell? ⟨w3.heap.size, 3, none⟩ = some (.int .i64 ft.count) := by rw [← hW2]; simp [go_sem]
     have q4 : W2.cell? ⟨w3.heap.size, 4, none⟩ = some (.slice A5 n5 c5) := by rw [← hW2]; simp [go_sem]
     have q5 : W2.cell? ⟨w3.heap.size, 5, none⟩ = some (.slice B5 m5 e5) := by rw [← hW2]; simp [go_sem]
     have HE2 := hid hE2
     have HO2 := hid (HOY.out.ext (hx3.trans hE2))
     have HXW := hid (HXK.out.trans (hx3.trans hE2))
     have HFR2 := hid (HFR.out.ext (hx3.trans hE2))
     have x1 := (hx3.trans hE2).cell x1
     have HEN := hid hen
     obtain ⟨cn, hcn⟩ : ∃ cn, ((G.take j).filter HP).length = cn := ⟨_, rfl⟩
     have hol := HOL.out
     have hc0 := HCNT0.out
     rw [hcn] at hol hc0
     have HOL := hid hol
     have HCNT := hid hc0
     have hyl := hol.2
     have HYL := hid hyl
     clear hi5 hv5 hx3 hE2 p0 hen hcn hol hc0 hfo hyl
     cases fb with
     | false =>
      have HHIT : Hid (hp = false) := hid (by rw [HHIT0.out]; rfl)
      go_wp2_with fail
      refine wp_region_held_drew (S := (fun w' => w'.cell? ⟨wo.heap.size, 1, none⟩ = some (.int .i64 xo) ∧ w'.cell? ⟨w3.heap.size, 0, none⟩ = some (.int .i64 fo) ∧ w'.cell? ⟨w3.heap.size, 1, none⟩ = some (.int .i64 ft.kind) ∧ w'.cell? ⟨w3.heap.size, 2, none⟩ = some (.int .i64 ft.size) ∧ w'.cell? ⟨w3.heap.size, 3, none⟩ = some (.int .i64 ft.count) ∧ w'.cell? ⟨w3.heap.size, 4, none⟩ = some (.slice A5 n5 c5) ∧ w'.cell? ⟨w3.heap.size, 5, none⟩ = some (.slice B5 m5 e5))) (by kernel_rfl) ⟨x1, q0, q1, q2, q3, q4, q5⟩ (fun hSg72q0 => ?_)
      refine rgT2 0 1 ?_
      refine rgU4 2 3 4 5 ?_
      refine rgU 6 ?_
      refine rgT2 7 8 ?_
      refine rgU2 9 10 ?_
      refine rgU 11 ?_
      refine rgC 12 (fun K hK => ?_)
      refine cast (if_neg (fun h => Bool.noConfusion (show false = true from h))).symm ?_
      refine rgK hK (by assumption) (fun hSg72q1 => ?_)
      clear hK K
      refine rgU 13 ?_
      refine rgT 14 ?_
      refine wpAnyH_done (by kernel_rfl) ?_ _
      have HCN := hid (HCNT.out.trans (by first | (rw [HHIT.out]; done) | (rw [HHIT.out]; rfl)))
      clear q0 q1 q2 q3 q4 q5 x1
      go_wp2
      first
       | go_roundw
       | refine ⟨?rel, ?measure⟩
      case rel => exact ⟨j + 1, m2, A7, c7, Y, by omega, by omega, by go_num, rfl, hid (by rw [HCN.out]; exact HOL.out), hid (HO2.out.ext (Ext.refl W2).drew), hid (HXW.out.trans (Ext.refl W2).drew), hid (HFR2.out.ext (Ext.refl W2).drew), HOB⟩
      case measure => simp [intOf]; omega
     | true =>
      by_cases h4 : fo ≤ xo
      case neg =>
       have g1 : decide (xo ≥ fo) = false := decide_eq_false (by omega)
       have HHIT : Hid (hp = false) := hid (by rw [HHIT0.out, decide_eq_false h4]; rfl)
       clear h4
       go_wp2_with fail
       refine wp_region_held_drew (S := (fun w' => w'.cell? ⟨wo.heap.size, 1, none⟩ = some (.int .i64 xo) ∧ w'.cell? ⟨w3.heap.size, 0, none⟩ = some (.int .i64 fo) ∧ w'.cell? ⟨w3.heap.size, 1, none⟩ = some (.int .i64 ft.kind) ∧ w'.cell? ⟨w3.heap.size, 2, none⟩ = some (.int .i64 ft.size) ∧ w'.cell? ⟨w3.heap.size, 3, none⟩ = some (.int .i64 ft.count) ∧ w'.cell? ⟨w3.heap.size, 4, none⟩ = some (.slice A5 n5 c5) ∧ w'.cell? ⟨w3.heap.size, 5, none⟩ = some (.slice B5 m5 e5))) (by kernel_rfl) ⟨x1, q0, q1, q2, q3, q4, q5⟩ (fun hSg73q0 => ?_)
       refine rgT6 0 1 2 3 4 5 ?_
       refine rgT3 6 7 8 ?_
       refine rgU2 9 10 ?_
       refine rgU 11 ?_
       refine rgC 12 (fun K hK => ?_)
       refine cast (if_neg (fun h => Bool.noConfusion (show false = true from h))).symm ?_
       refine rgK hK (by assumption) (fun hSg73q1 => ?_)
       clear hK K
       refine rgU 13 ?_
       refine rgT 14 ?_
       refine wpAnyH_done (by kernel_rfl) ?_ _
       have HCN := hid (HCNT.out.trans (by first | (rw [HHIT.out]; done) | (rw [HHIT.out]; rfl)))
       clear q0 q1 q2 q3 q4 q5 x1
       go_wp2
       first
        | go_roundw
        | refine ⟨?rel, ?measure⟩
       case rel => exact ⟨j + 1, m2, A7, c7, Y, by omega, by omega, by go_num, rfl, hid (by rw [HCN.out]; exact HOL.out), hid (HO2.out.ext (Ext.refl W2).drew), hid (HXW.out.trans (Ext.refl W2).drew), hid (HFR2.out.ext (Ext.refl W2).drew), HOB⟩
       case measure => simp [intOf]; omega
      have g1 : decide (xo ≥ fo) = true := decide_eq_true h4
      have HHIT1 : Hid (hp = decide (xo < en)) := hid (by rw [HHIT0.out, decide_eq_true h4, HEN.out]; rfl)
      clear h4
      go_wp2_with fail
      refine wp_region_held_drew (S := (fun w' => w'.cell? ⟨wo.heap.size, 1, none⟩ = some (.int .i64 xo) ∧ w'.cell? ⟨w3.heap.size, 0, none⟩ = some (.int .i64 fo) ∧ w'.cell? ⟨w3.heap.size, 1, none⟩ = some (.int .i64 ft.kind) ∧ w'.cell? ⟨w3.heap.size, 2, none⟩ = some (.int .i64 ft.size) ∧ w'.cell? ⟨w3.heap.size, 3, none⟩ = some (.int .i64 ft.count) ∧ w'.cell? ⟨w3.heap.size, 4, none⟩ = some (.slice A5 n5 c5) ∧ w'.cell? ⟨w3.heap.size, 5, none⟩ = some (.slice B5 m5 e5))) (by kernel_rfl) ⟨x1, q0, q1, q2, q3, q4, q5⟩ (fun hSg74q0 => ?_)
      refine rgT6 0 1 2 3 4 5 ?_
      refine rgT6 6 7 8 9 10 11 ?_
      refine rgC 12 (fun K hK => ?_)
      go_simp
      go_at_call 43
      refine (HEC.out _ (HE2.out.trans (Ext.refl W2).drew)).mono ?_
      rintro e w8 ⟨rfl, hx8⟩
      have HX8 := hid hx8.drew_left
      clear hx8
      refine rgK hK ⟨HX8.out.cell x1, HX8.out.cell q0, HX8.out.cell q1, HX8.out.cell q2, HX8.out.cell q3, HX8.out.cell q4, HX8.out.cell q5⟩ (fun hSg74q1 => ?_)
      clear hK K
      refine rgT2 13 14 ?_
      refine wpAnyH_done (by kernel_rfl) ?_ _
      by_cases h5 : xo < en
      case neg =>
       have g2 : decide (xo < en) = false := decide_eq_false h5
       have HHIT : Hid (hp = false) := hid (by rw [HHIT1.out, g2])
       have HCN := hid (HCNT.out.trans (by first | (rw [HHIT.out]; done) | (rw [HHIT.out]; rfl)))
       clear q0 q1 q2 q3 q4 q5 x1
       go_wp2
       first
        | go_roundw
        | refine ⟨?rel, ?measure⟩
       case rel => exact ⟨j + 1, m2, A7, c7, Y, by omega, by omega, by go_num, rfl, hid (by rw [HCN.out]; exact HOL.out), hid (HO2.out.ext HX8.out), hid (HXW.out.trans HX8.out), hid (HFR2.out.ext HX8.out), HOB⟩
       case measure => simp [intOf]; omega
      have g2 : decide (xo < en) = true := decide_eq_true h5
      have HHIT : Hid (hp = true) := hid (by rw [HHIT1.out, g2])
      have HCN := hid (HCNT.out.trans (show _ = cn + 1 by rw [HHIT.out]; rfl))
      have HO8 := hid (HO2.out.ext HX8.out)
      have HX9 := hid (HXW.out.trans HX8.out)
      have HFR9 := hid (HFR2.out.ext (HX8.out.trans ((Ext.refl w8).alloc (.cells #[.int .i64 k] 3))))
      clear q0 q1 q2 q3 q4 q5 x1
      go_wp2_with (first
       | (at_builtin; refine wpList_app1l rfl (.tmp 74) (.tmp 76) 36 rfl wB.heap.size 3 j0 _ 1 8 Tryz.underlying36 HJ.out HJ0.out HJ1.out HJ2.out rfl offR rfl (.slice A7 m2 c7) Y rfl HO8.out w8.heap.size rfl k rfl ⟨rfl, by omega⟩ (by have := HYL.out; omega) (by have := HYL.out; omega) (by exact HX9.out.size) ?_; intro A9 c9 w9 hown9 hg9 hloc9; rw [HYL.out] at hown9 hloc9; have HO9 := hid hown9; have HX10 := hid ((HX9.out.alloc _).grown hg9 (fun q hq => (HO8.out.block q hq).1)); have HFR10 := hid (HFR9.out.grown hg9 HOB.out); have HOB10 : Hid (∀ q, (Value.slice A9 (m2 + 1) c9).ownBlock = some q → q < wo.heap.size ∨ wg.heap.size ≤ q) := hid (fun q hq => by
           rcases hloc9 q hq with h | h
           ·exact HOB.out q h
           ·have h2 := HFR2.out.sz
            have h3 := HX8.out.size
            exact .inr (by omega)); clear hown9 hg9 hloc9; rw [HYL.out])
       | fail)
      first
       | go_roundw
       | refine ⟨?rel, ?measure⟩
      case rel => exact ⟨j + 1, m2 + 1, A9, c9, Y ++ [k], by omega, by omega, by go_num, rfl, hid ⟨by rw [HCN.out, HOL.out.1, List.replicate_succ', List.append_assoc], by rw [List.length_append, HYL.out]; rfl⟩, HO9, HX10, HFR10, HOB10⟩
      case measure => simp [intOf]; omega
  obtain ⟨x, hx⟩ : ∃ x, l[k]? = some x := ⟨_, List.getElem?_eq_getElem (by have := HLN.out; omega)⟩
  obtain ⟨b, off, rfl, x0, x1, x2, x3, hi0, hi1, hi2⟩ := (HL.out.ext HX.out).acc_at hx
  obtain ⟨z, hz⟩ : ∃ z, validA x = z := ⟨_, rfl⟩
  have HVC := hid (fun (w' : World) => valid_any w' x)
  rw [hz] at HVC
  have HZ := hid hz
  have HXX := hid hx
  have HPC := hid (fun (w' : World) => part_any w' x)
  have HFP := hid (fun (w' : World) (S : Nat → Prop) => part_fdV 0 w' S x hi1 hi2)
  have HBI := hid hi0
  unfold partV at HFP HPC
  obtain ⟨kd, hkd⟩ : ∃ kd, kindA x = kd := ⟨_, rfl⟩
  rw [hkd] at HFP HPC
  unfold accV at HVC HPC
  obtain ⟨xb, xo, xw, xs⟩ := x
  simp only at x0 x1 x2 x3 HVC HPC HFP HBI
  have hkn : (k : Int) < (n : Int) := by omega
  clear hx hi0 hi1 hi2 hz hkd
  go_upto_region 5 with fail
  obtain ⟨Wb, hWb⟩ : ∃ Wb, wr.alloc (.cells #[.int .i64 xb, .int .i64 xo, .int .i64 xw, .bool xs] 59) = Wb := ⟨_, rfl⟩
  rw [hWb]
  have hEb : Ext wr Wb := by rw [← hWb]; exact (Ext.refl wr).alloc _
  have q0 : Wb.cell? ⟨wr.heap.size, 0, none⟩ = some (.int .i64 xb) := by rw [← hWb]; simp [go_sem]
  have q1 : Wb.cell? ⟨wr.heap.size, 1, none⟩ = some (.int .i64 xo) := by rw [← hWb]; simp [go_sem]
  have q2 : Wb.cell? ⟨wr.heap.size, 2, none⟩ = some (.int .i64 xw) := by rw [← hWb]; simp [go_sem]
  have q3 : Wb.cell? ⟨wr.heap.size, 3, none⟩ = some (.bool xs) := by rw [← hWb]; simp [go_sem]
  have HEb := hid hEb
  have HQ : Hid (IsCells Wb wr.heap.size) := hid (isCells_of q0)
  clear hWb hEb x0 x1 x2 x3
  go_wp2_with fail
  refine (HVC.out _).mono ?_
  rintro e w5 ⟨rfl, hx5⟩
  have HX5 := hid (HEb.out.trans hx5)
  have q0 := hx5.cell q0
  have q1 := hx5.cell q1
  have q2 := hx5.cell q2
  have q3 := hx5.cell q3
  have HQ5 : Hid (IsCells w5 wr.heap.size) := hid (isCells_of q0)
  clear hx5
  have HM5 := hid (HM.out.ext HX5.out)
  cases z with
  | false =>
   clear q0 q1 q2 q3
   go_wp2
   first
    | go_roundw
    | refine ⟨?rel, ?measure⟩
   case rel => exact ⟨k + 1, f, by omega, by go_num, hid (mapP_skip HXX.out HZ.out HM5.out), hid (HX.out.trans HX5.out)⟩
   case measure => simp [intOf]; omega
  | true =>
  obtain ⟨Av, cv, hfv, -, -⟩ := (HM5.out.2.1 xb).form
  obtain ⟨ml, hml⟩ : ∃ ml, (baseP (l.take k) xb).length = ml := ⟨_, rfl⟩
  have hmlb : ml ≤ 1000 := by have := baseP_len (l.take k) xb; rw [List.length_take] at this; omega
  rw [hml] at hfv
  have HFV := hid hfv
  have HMLN := hid hml
  have HMG := hid HM5.out.1
  have HLK : Hid (∀ W, MapG (intK Tryz.underlying3) W w.heap.size k f → (Instr.lookup 68 (.map (some w.heap.size)) (.int .i64 xb) false).run Tryz.prog W = .ok (.slice Av ml cv) W) := hid (fun W hW => by have h := map_look hW HBI.out; rwa [hfv] at h)
  have HOB : Hid (∀ q, (Value.slice Av ml cv).ownBlock = some q → w.heap.size ≤ q ∧ q < wr.heap.size) := hid (fun q hq => (HM.out.2.1 xb).block q (by rw [hfv]; exact hq))
  have hwq : w.heap.size ≤ wr.heap.size := HX.out.size
  have HWQ : Hid (wr.heap.size < w5.heap.size) := hid HQ5.out.lt
  clear hfv hml
  go_wp2_with fail
  refine wp_region_split 11 (by kernel_rfl) rfl rfl (by kernel_rfl) (fun w' => w'.cell? ⟨wr.heap.size, 0, none⟩ = some (.int .i64 xb) ∧ w'.cell? ⟨wr.heap.size, 1, none⟩ = some (.int .i64 xo) ∧ w'.cell? ⟨wr.heap.size, 2, none⟩ = some (.int .i64 xw) ∧ w'.cell? ⟨wr.heap.size, 3, none⟩ = some (.bool xs) ∧ (Instr.lookup 68 (.map (some w.heap.size)) (.int .i64 xb) false).run Tryz.prog w' = .ok (.slice Av ml cv) w') ⟨q0, q1, q2, q3, HLK.out _ (HMG.out.ext (Ext.refl w5).drew)⟩ (fun hSg75q0 => ?_)
  refine rgT6 0 1 2 3 4 5 ?_
  refine rgT2 6 7 ?_
  refine rgC 8 (fun K hK => ?_)
  go_simp
  go_at_call 39
  refine (HPC.out _).mono ?_
  rintro e w7 ⟨rfl, hx7⟩
  have HX7 := hid hx7.drew_left
  have HM7 := hid (HM5.out.ext HX7.out)
  have HO7 : Hid (OwnS (fdR (tyR 1)) w7 w.heap.size 48 Non (.slice Av ml cv) (baseP (l.take k) xb)) := hid (by have h := HM7.out.2.1 xb; rwa [HFV.out] at h)
  clear hx7
  refine rgK hK ⟨HX7.out.cell q0, HX7.out.cell q1, HX7.out.cell q2, HX7.out.cell q3, HLK.out _ HM7.out.1⟩ (fun hSg75q1 => ?_)
  clear hK K
  refine rgC 9 (fun K hK => ?_)
  go_simp
  refine rgK hK ⟨(HX7.out.alloc _).cell q0, (HX7.out.alloc _).cell q1, (HX7.out.alloc _).cell q2, (HX7.out.alloc _).cell q3, HLK.out _ (HM7.out.1.ext ((Ext.refl _).alloc _))⟩ (fun hSg75q2 => ?_)
  clear hK K
  refine rgC 10 (fun K hK => ?_)
  refine step_app1l rfl (.tmp 28) (.tmp 31) 23 rfl w.heap.size 48 i0 _ 6 80 Tryz.underlying23 HI.out HI0.out HI1.out HI2.out rfl (fdR (tyR 1)) (fdR_size 1) (.slice Av ml cv) (baseP (l.take k) xb) rfl HO7.out (partA ⟨xb, xo, xw, xs⟩) rfl (fd_rel.2 (HFP.out _ _)) (by rw [HMLN.out]; omega) (by rw [HMLN.out]; omega) (by exact Nat.le_trans hwq (Nat.le_trans (Nat.le_of_lt HWQ.out) HX7.out.size)) ?_
  intro A9 c9 w9 hown9 hg9 hloc9
  rw [HMLN.out] at hown9 hloc9
  have HO9 := hid hown9
  have HG9 := hid hg9
  have HL9 := hid hloc9
  have HE9 := hid (hg9.block wr.heap.size (by have := HWQ.out; have := HX7.out.size; simp; omega) (fun e => by have := (HOB.out _ e.symm).2; omega))
  have HM9 := hid ((HM7.out.1.ext ((Ext.refl _).alloc _)).kept hg9 (fun e => HM7.out.1.ne (own_cells HO7.out e.symm) rfl))
  clear hown9 hg9 hloc9
  rw [HMLN.out]
  refine rgK hK ⟨(World.cell?_of_block HE9.out).trans ((HX7.out.alloc _).cell q0), (World.cell?_of_block HE9.out).trans ((HX7.out.alloc _).cell q1), (World.cell?_of_block HE9.out).trans ((HX7.out.alloc _).cell q2), (World.cell?_of_block HE9.out).trans ((HX7.out.alloc _).cell q3), HLK.out _ HM9.out⟩ (fun hSg75q3 => ?_)
  clear hK K
  refine wpAnyH_done (by kernel_rfl) ?_ _
  change wpList _ _ _ _ _ _
  clear q0 q1 q2 q3
  go_wp2_with (first
   | (at_mapUpdate; refine wpList_put _ rfl (.tmp 22) (.tmp 24) (.tmp 32) 68 rfl 23 Tryz.underlying68 (intK Tryz.underlying3) w.heap.size k f rfl HM9.out (by unfold maxLen; omega) xb rfl HBI.out (.slice A9 (ml + 1) c9) rfl ?_; intro w10 hm10 hg10; have HM10 := hid hm10; have HG10 := hid hg10; clear hm10 hg10)
   | fail)
  first
   | go_roundw
   | refine ⟨?rel, ?measure⟩
  case rel =>
   refine ⟨k + 1, _, by omega, by go_num, hid (mapP_snoc HXX.out HZ.out (HM7.out.step HO9.out (by rw [HFV.out]; exact HG9.out) (by rw [HFV.out]; exact HL9.out) HM10.out HG10.out)), hid ?_⟩
   exact ((((HX.out.trans HX5.out).trans HX7.out).alloc _).grown HG9.out (fun q e => (HOB.out q e).1)).grown HG10.out (fun q e => by injection e with e; omega)
  case measure => simp [intOf]; omega
end Go.Proofs.YtacmjhcfjhpkeaaGreatDoor
