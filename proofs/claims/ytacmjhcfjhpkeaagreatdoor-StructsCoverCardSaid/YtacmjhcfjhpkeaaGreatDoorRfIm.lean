/- decompilerref34.groups. -/
import Derived.Test.YtacmjhcfjhpkeaaGreatDoorRfHm
import Derived.Test.YtacmjhcfjhpkeaaGreatDoorSglm
import Derived.Test.YtacmjhcfjhpkeaaGreatDoorStxm
import Derived.Test.YtacmjhcfjhpkeaaGreatDoorLasm
import Derived.Deep.CutRange
namespace Go.Proofs.YtacmjhcfjhpkeaaGreatDoor
open Go.RowKit Go.Deco
set_option linter.unusedSimpArgs false
set_option linter.unusedVariables false

def GroupsQ (d : Nat) (T : Nat → Prop) (w : World) (G : List (List (Int × Ty))) (e : Ending) (w' : World) : Prop := ∃ A c, e = .returned (.slice A G.length c) ∧ Sl (slR (fdR (tyR d))) w' (fun b => T b ∨ w.heap.size ≤ b) (.slice A G.length c) G ∧ Ext w w'
/-- Before a part goes into the last group: a state, and what the fold will say. -/
def GrpJ (d base : Nat) (T : Nat → Prop) (w : World) (L : List (Int × Ty)) (k : Nat) (x : Int × Ty) (en : Int) (ov : Value) (m : Nat) (last : Int) (hs : List SlH) (gs : List (List (Int × Ty))) (h : SlH) (g : List (Int × Ty)) : Prop :=
 GrpSt d base T 23 48 w ov hs gs h g ∧ hs.length + 1 = m ∧ (L.take (k + 1)).foldl grpS ([], 0) = (gs ++ [g ++ [x]], max last en) ∧ g.length ≤ k
theorem grp_last {l : List (Int × Ty)} {G : List (List (Int × Ty))} {last : Int} (h : l.foldl grpS ([], 0) = (G, last)) (h0 : G = []) : last = 0 := by
 have := grpS_zero (l := l)
 rw [h] at this
 exact this h0
set_option maxRecDepth 100000 in
set_option maxHeartbeats 8000000 in
theorem rgroups_any (d : Nat) (T : Nat → Prop) (w : World) (A : Option Addr) (n c : Nat) (L : List (Int × Ty)) (hlim : ∀ b, T b → b < w.heap.size) (hl : Sl (fdR (tyR d)) w T (.slice A n c) L) (hn : n ≤ 100000) (hoff : ∀ f ∈ L, 0 ≤ f.1 ∧ f.1 ≤ 131072) :
  Calls Tryz.prog 62 #[.slice A n c] w (GroupsQ d T w (L.foldl grpS ([], 0)).1) := by
 have HLL := hid hl.len
 have HLIM := hid hlim
 obtain ⟨G0, hG0⟩ : ∃ G0, (L.foldl grpS ([], 0)).1 = G0 := ⟨_, rfl⟩
 have HG0 := hid hG0
 rw [hG0]
 have HOFF := hid hoff
 have HL := hid hl
 clear hl hoff hG0 hlim
 obtain ⟨i0, hi0, hz0, hz1, hz2⟩ := info_parts info_fds
 have HI := hid hi0
 have HI0 := hid hz0
 have HI1 := hid hz1
 have HI2 := hid hz2
 obtain ⟨j0, hj0, hy0, hy1, hy2⟩ := info_parts info_fd
 have HJ := hid hj0
 have HJ0 := hid hy0
 have HJ1 := hid hy1
 have HJ2 := hid hy2
 clear hi0 hz0 hz1 hz2 hj0 hy0 hy1 hy2
 unfold GroupsQ
 go_enter Tryz.func62, Tryz.ntmps62
 go_wp2
 go_loopw [5, 3, 4] (fun i s4 s5 wr => ∃ (k m : Nat) (last : Int) (Ao : Option Addr) (co : Nat) (G : List (List (Int × Ty))), k ≤ n ∧ m ≤ k ∧ 0 ≤ last ∧ last ≤ 262144 ∧ i = .int .i64 k ∧ s4 = .slice Ao m co ∧ s5 = .int .i64 last ∧
  Hid ((L.take k).foldl grpS ([], 0) = (G, last)) ∧ Hid (G.length = m) ∧ Hid (GrpI d w.heap.size T wr (.slice Ao m co) G) ∧ Hid (Ext w wr)) (fun i _ _ _ => n - (intOf i).toNat)
 case atStart => exact ⟨0, 0, 0, none, 0, [], by omega, by omega, by omega, by omega, rfl, rfl, rfl, hid rfl, hid rfl, hid (.inl ⟨rfl, rfl, HLIM.out, Nat.le_refl _⟩), hid (Ext.refl _)⟩
 case round =>
  obtain ⟨k, m, last, Ao, co, G, hk, hm, hl0, hl1, rfl, rfl, rfl, HF, HGL, HST, HX⟩ := hrel
  by_cases h1 : k < n
  ·obtain ⟨x, hx⟩ : ∃ x, L[k]? = some x := ⟨_, List.getElem?_eq_getElem (by have := HLL.out; omega)⟩
   obtain ⟨d', b, off, A5, n5, c5, B5, m5, e5, hd, rfl, hv1, hi1, p0, p1, p2, p3, p4, p5⟩ := HL.out.fd_at hx
   have hbl : b < w.heap.size := World.block_lt_of_cell? _ _ p0
   have HBL := hid hbl
   have HPP := hid (And.intro p0 (And.intro p1 (And.intro p2 (And.intro p3 (And.intro p4 p5)))))
   have HREL : Hid ((fdR (tyR d)).rel w T [.int .i64 x.1, .int .i64 x.2.kind, .int .i64 x.2.size, .int .i64 x.2.count, .slice A5 n5 c5, .slice B5 m5 e5] x) := hid (by
    rw [hd]
    exact fd_rel.2 ⟨A5, n5, c5, B5, m5, e5, rfl, hi1, hv1⟩)
   have HD := hid hd
   have HXX := hid hx
   have hxo := HOFF.out x (List.mem_of_getElem? hx)
   have HFD := hid (fun (w' : World) (hw : Ext w w') => (FdV.ext ⟨A5, n5, c5, B5, m5, e5, rfl, hi1, hv1.all⟩ hw : FdV d' w' All (.agg #[.int .i64 x.1, .int .i64 x.2.kind, .int .i64 x.2.size, .int .i64 x.2.count, .slice A5 n5 c5, .slice B5 m5 e5]) x))
   have HE := hid (fun (w' : World) (hw : Ext w w') => rend_any d' w' x _ (HFD.out w' hw) hxo.1 hxo.2)
   have hen0 := endF_ge x
   have hen1 : endF x ≤ 262144 := by have := sizeT_le x.2; unfold endF; omega
   obtain ⟨en, hen⟩ : ∃ en, endF x = en := ⟨_, rfl⟩
   have HEN := hid hen
   rw [hen] at HE hen0 hen1
   have HXO := hid hxo
   have hen2 : 0 ≤ en := by omega
   have hkn : (k : Int) < (n : Int) := by omega
   have HEO := hid hen0
   clear hd hv1 hi1 hx hen hxo hbl p0 p1 p2 p3 p4 p5 hen0
   have hmn : m ≤ 100000 := by omega
   have p0 := HX.out.cell HPP.out.1
   obtain ⟨cd, hcd⟩ : ∃ cd, decide (0 < m ∧ x.1 < last) = cd := ⟨_, rfl⟩
   have HCD := hid hcd
   clear hcd
   go_upto_region 6 with fail
   go_cut [24] from 7 to 50 (fun s wx => s = .bool (!cd) ∧ wr = wx)
   case first =>
    by_cases h0 : m = 0
    ·have g0 : ((m : Int) == 0) = true := by simp; omega
     obtain rfl : cd = false := by rw [← HCD.out]; exact decide_eq_false (by omega)
     have hm0 : (m : Int) = 0 := by omega
     go_wp2
     go_meet
     exact ⟨rfl, rfl⟩
    ·have g0 : ((m : Int) == 0) = false := by simp; omega
     by_cases h2 : x.1 < last
     ·obtain rfl : cd = true := by rw [← HCD.out]; exact decide_eq_true (by omega)
      have g2 : decide (x.1 ≥ last) = false := decide_eq_false (by omega)
      clear h0
      go_wp2
      go_meet
      exact ⟨rfl, rfl⟩
     ·obtain rfl : cd = false := by rw [← HCD.out]; exact decide_eq_false (by omega)
      have g2 : decide (x.1 ≥ last) = true := decide_eq_true (by omega)
      clear h0
      go_wp2
      go_meet
      exact ⟨rfl, rfl⟩
   case rest =>
   obtain ⟨rfl, hwc⟩ := hcut
   subst hwc
   clear p0
   go_upto_if 24 with fail
   go_cut [3, 4] from 7 to 50 (fun s3 s4 wx => ∃ (Ao' : Option Addr) (m1 co' : Nat) (last0 : Int) (hs : List SlH) (gs : List (List (Int × Ty))) (h : SlH) (g0 : List (Int × Ty)), s3 = .slice Ao' m1 co' ∧ s4 = .int .i64 last0 ∧ m1 ≤ k + 1 ∧ 0 ≤ last0 ∧ last0 ≤ 262144 ∧ Hid (GrpJ d w.heap.size T wx L k x en (.slice Ao' m1 co') m1 last0 hs gs h g0) ∧ Hid (Ext w wx))
   case first =>
    cases cd with
    | true =>
     have hcc : 0 < m ∧ x.1 < last := of_decide_eq_true HCD.out
     obtain ⟨hs, gs, hh, g0, hG, hst⟩ : ∃ hs gs h g, G = gs ++ [g] ∧ GrpSt d w.heap.size T 23 48 wr (.slice Ao m co) hs gs h g := by
      rcases HST.out with ⟨h1, -, -, -⟩ | h1
      ·have := HGL.out; rw [h1] at this; simp at this; omega
      ·exact h1
     have hml : m = hs.length + 1 := by have := hst.out.len; simpa using this
     have hg0k : g0.length ≤ k := by
      have h1 := grp_flat (L.take k) ([], 0)
      rw [HF.out, hG, List.length_take] at h1
      simp at h1
      omega
     have hfn : (L.take (k + 1)).foldl grpS ([], 0) = (gs ++ [g0 ++ [x]], max last en) := by
      rw [grpS_take HXX.out, HF.out]
      have hyes : G ≠ [] ∧ x.1 < last := ⟨fun e => by rw [e] at hG; simp at hG, hcc.2⟩
      simp only [grpS, HEN.out]
      rw [if_pos hyes, hG]
      simp
     have HJJ : Hid (GrpJ d w.heap.size T wr L k x en (.slice Ao m co) m last hs gs hh g0) := hid ⟨hst, hml.symm, hfn, hg0k⟩
     clear hG hst hml hg0k hfn hcc
     go_wp2
     go_meet
     exact ⟨Ao, m, co, last, hs, gs, hh, g0, rfl, rfl, by omega, by omega, by omega, HJJ, HX⟩
    | false =>
     have HNC : Hid (¬ (0 < m ∧ x.1 < last)) := hid (of_decide_eq_false HCD.out)
     have HMX : Hid (max last en = max 0 en) := hid (by
      have h0 := HNC.out
      have h1 := HEO.out
      by_cases hm0 : 0 < m
      ·have : last ≤ x.1 := by
        rcases Int.lt_or_le x.1 last with h | h
        ·exact absurd ⟨hm0, h⟩ h0
        ·exact h
       omega
      ·have hG0 : G = [] := List.length_eq_zero_iff.1 (by rw [HGL.out]; omega)
       have := grp_last HF.out hG0
       omega)
     obtain ⟨HSL, hown, hhl⟩ : ∃ HSL : List SlH, OwnS slhR wr w.heap.size 23 All (.slice Ao m co) HSL ∧ HSL.length = m := by
      rcases HST.out with ⟨h1, h2, -, -⟩ | ⟨hs, gs, h, g, h1, h2⟩
      ·injection h2 with h2 h3 h4
       subst h2 h3 h4
       exact ⟨[], OwnS.nil, rfl⟩
      ·exact ⟨hs ++ [h], h2.out, by have := h2.out.len; omega⟩
     have HOB := hid (fun (q : Nat) hq => hown.block q hq)
     have HEQ : Hid (∀ hs gs h g, G = gs ++ [g] → GrpSt d w.heap.size T 23 48 wr (.slice Ao m co) hs gs h g → HSL = hs ++ [h]) := hid (fun hs gs h g _ h2 => slh_uniq hown h2.out)
     have HOWN := hid hown
     have HHL := hid hhl
     clear hown hhl
     go_wp2_with (first
      | (at_builtin; refine wpList_app1l rfl (.tmp 25) (.tmp 26) 69 rfl w.heap.size 23 i0 _ 1 24 Tryz.underlying69 HI.out HI0.out HI1.out HI2.out rfl slhR rfl (.slice Ao m co) HSL rfl HOWN.out wr.heap.size rfl ⟨none, 0, 0⟩ rfl rfl (by have := HHL.out; omega) (by have := HHL.out; omega) (by exact HX.out.size) ?_; intro A6 c6 w6 hown6 hg6 hloc6; rw [HHL.out] at hown6 hloc6; have HO6 := hid hown6; have HG6 := hid hg6; have HLC6 := hid hloc6;
          have HX6 := hid ((HX.out.alloc _).grown hg6 (fun q hq => (HOB.out q hq).1));
          clear hown6 hg6 hloc6; rw [HHL.out])
      | fail)
     have hhov : (Value.slice A6 (m + 1) c6).ownBlock = (Value.slice Ao m co).ownBlock ∨ ∀ b, (Value.slice A6 (m + 1) c6).ownBlock = some b → (wr.alloc (.cells [(SlH.val ⟨none, 0, 0⟩)].toArray 23)).heap.size ≤ b := by
      cases hb : (Value.slice A6 (m + 1) c6).ownBlock with
      | none => exact .inr fun b h => by cases h
      | some b =>
       rcases HLC6.out b hb with h | h
       ·exact .inl h.symm
       ·exact .inr fun b' h' => by injection h' with h'; subst h'; first | (simp; done) | (simp; omega)
     have hnew : ∃ hs gs, GrpJ d w.heap.size T w6 L k x en (.slice A6 (m + 1) c6) (m + 1) 0 hs gs ⟨none, 0, 0⟩ [] := by
      have hfold : (L.take (k + 1)).foldl grpS ([], 0) = (G ++ [[] ++ [x]], max 0 en) := by
       rw [grpS_take HXX.out, HF.out]
       have hno : ¬ (G ≠ [] ∧ x.1 < last) := fun h => HNC.out ⟨by have := List.length_pos_iff.2 h.1; rw [HGL.out] at this; exact this, h.2⟩
       simp only [grpS, HEN.out]
       rw [if_neg hno, HMX.out]
       rfl
      rcases HST.out with ⟨h1, h2, h3, h4⟩ | ⟨hs, gs, h, g, h1, h2⟩
      ·have hHSL : HSL = [] := List.length_eq_zero_iff.1 (by rw [HHL.out, ← HGL.out, h1]; rfl)
       have hnil : (Value.slice Ao m co).ownBlock = none := by rw [h2]; rfl
       have hg := HG6.out
       rw [hnil] at hg
       have ho := HO6.out
       rw [hHSL] at ho
       refine ⟨[], [], GrpSt.first (W1 := wr.alloc (.cells [(SlH.val ⟨none, 0, 0⟩)].toArray 23)) h3 (by have := HX.out.size; simp; omega) OwnS.nil hg ho (fun b hb => ?_), by rw [← HGL.out, h1]; rfl, by rw [h1] at hfold; exact hfold, Nat.zero_le _⟩
       rcases hhov with h | h
       ·rw [h, hnil] at hb; cases hb
       ·exact h b hb
      ·have hHSL : OwnS slhR w6 w.heap.size 23 All (.slice A6 (m + 1) c6) (hs ++ [h] ++ [⟨none, 0, 0⟩]) := by
        have e : HSL = hs ++ [h] := HEQ.out hs gs h g h1 h2
        rw [← e]
        exact HO6.out
       refine ⟨hs ++ [h], gs ++ [g], h2.new (W1 := wr.alloc (.cells [(SlH.val ⟨none, 0, 0⟩)].toArray 23)) ((Ext.refl _).alloc _) OwnS.nil (fun b hb => by cases hb) HG6.out hHSL hhov, ?_, by rw [h1] at hfold; exact hfold, Nat.zero_le _⟩
       have h5 := h2.out.len
       simp at h5 ⊢
       omega
     obtain ⟨hs, gs, hj⟩ := hnew
     go_meet
     exact ⟨A6, m + 1, c6, 0, hs, gs, ⟨none, 0, 0⟩, [], rfl, rfl, by omega, by omega, by omega, hid hj, HX6⟩
   case rest =>
    obtain ⟨Ao', m1, co', last0, hs, gs, hh, g0, rfl, rfl, hm1, hl00, hl01, HJJ, HXC⟩ := hcut
    obtain ⟨V, hV⟩ : ∃ V, V = wc := ⟨_, rfl⟩
    obtain rfl := hV
    obtain ⟨m', hm'⟩ : ∃ m', hs.length = m' := ⟨_, rfl⟩
    have hmm : m1 = m' + 1 := by have := HJJ.out.2.1; omega
    have w1' : IntKind.i64.wrap ((m1 : Int) - 1) = (m' : Int) := by rw [IntWalk.i64_in _ (by omega)]; omega
    have j1 : (0 : Int) ≤ (m' : Int) := by omega
    have j2 : (m' : Int) < (m1 : Int) := by omega
    obtain ⟨og, hog, hog1, hog2⟩ := HJJ.out.1.out.at0 (by omega)
    subst hog
    have hcell := slhP.cell HJJ.out.1.out (k := m') (x := hh) (i := 0) (u := hh.val) (by rw [← hm']; simp) rfl
    rw [show m' * slhR.size + 0 = m' by simp [slhR]] at hcell
    obtain ⟨oc, ofz⟩ := hcell
    obtain ⟨hA, hn', hc'⟩ := hh
    have hgl : hn' = g0.length := HJJ.out.1.last.len
    have HSTT := hid HJJ.out.1
    have HGLN := hid hgl
    have HG0K := hid HJJ.out.2.2.2
    have HFN := hid HJJ.out.2.2.1
    have HM' := hid hm'
    have HOG := hid (And.intro hog1 hog2)
    have HOFZ := hid ofz
    have hbo : b ≠ og := by have := HBL.out; omega
    have hob : og ≠ b := fun e => hbo e.symm
    have HBN := hid hbo
    have HZF : Hid (∀ (W : World) (S : Nat → Prop), (fdR (tyR d)).rel W S [.int .i64 0, .int .i64 0, .int .i64 0, .int .i64 0, .slice none 0 0, .slice none 0 0] (0, Ty.mk 0 0 0 [] [])) := hid (fun W S => by
     rw [HD.out]
     exact fd_rel.2 ⟨none, 0, 0, none, 0, 0, rfl, by show i64b 0; unfold i64b; omega, tyV_leaf d' W S 0 0 (by unfold i64b; omega) (by unfold i64b; omega)⟩)
    have p0 := HXC.out.cell HPP.out.1
    have p1 := HXC.out.cell HPP.out.2.1
    have p2 := HXC.out.cell HPP.out.2.2.1
    have p3 := HXC.out.cell HPP.out.2.2.2.1
    have p4 := HXC.out.cell HPP.out.2.2.2.2.1
    have p5 := HXC.out.cell HPP.out.2.2.2.2.2
    clear hm' hmm hgl hog1 hog2 ofz
    go_wp2_with fail
    have HXg60q_0 := hid ((Ext.refl V).drew)
    refine wp_region_last 10 (fun w' => w'.cell? ⟨og, m', none⟩ = some (.slice hA hn' hc') ∧ w'.cell? ⟨b, off + k * 6, none⟩ = some (.int .i64 x.1) ∧ w'.cell? ⟨b, off + k * 6 + 1, none⟩ = some (.int .i64 x.2.kind) ∧ w'.cell? ⟨b, off + k * 6 + 2, none⟩ = some (.int .i64 x.2.size) ∧ w'.cell? ⟨b, off + k * 6 + 3, none⟩ = some (.int .i64 x.2.count) ∧ w'.cell? ⟨b, off + k * 6 + 4, none⟩ = some (.slice A5 n5 c5) ∧ w'.cell? ⟨b, off + k * 6 + 5, none⟩ = some (.slice B5 m5 e5)) (by kernel_rfl) ⟨oc, p0, p1, p2, p3, p4, p5⟩ (fun hSg60q0 => ?_)
    refine wpAnyE_takeS (i := 0) (v := ?g60qv0x1) rfl (by kernel_rfl) (by kernel_rfl) (by kernel_rfl) (by kernel_rfl) (by kernel_rfl) (fun _ _ _ h => h) (Or.inl ⟨by rfl, ?g60qy0x1⟩) hSg60q0 ?g60qr0x1
    case g60qy0x1 => first | (intro w hSw; (try dsimp only at hSw); go_simp; done) | (intro w hSw; (try dsimp only at hSw); go_simp; with_reducible rfl)
    case' g60qr0x1 => try simp only [Act.put, List.setIfInBounds_toArray, List.set_cons_zero, List.set_cons_succ]
    refine wpAnyE_takeS (i := 1) (v := ?g60qv1x2) rfl (by kernel_rfl) (by kernel_rfl) (by kernel_rfl) (by kernel_rfl) (by kernel_rfl) (fun _ _ _ h => h) (Or.inl ⟨by rfl, ?g60qy1x2⟩) hSg60q0 ?g60qr1x2
    case g60qy1x2 => first | (intro w hSw; (try dsimp only at hSw); go_simp; done) | (intro w hSw; (try dsimp only at hSw); go_simp; with_reducible rfl)
    case' g60qr1x2 => try simp only [Act.put, List.setIfInBounds_toArray, List.set_cons_zero, List.set_cons_succ]
    refine wpAnyE_takeS (i := 2) (v := ?g60qv2x3) rfl (by kernel_rfl) (by kernel_rfl) (by kernel_rfl) (by kernel_rfl) (by kernel_rfl) (fun _ _ _ h => h) (Or.inl ⟨by rfl, ?g60qy2x3⟩) hSg60q0 ?g60qr2x3
    case g60qy2x3 => first | (intro w hSw; (try dsimp only at hSw); go_simp; done) | (intro w hSw; (try dsimp only at hSw); go_simp; with_reducible rfl)
    case' g60qr2x3 => try simp only [Act.put, List.setIfInBounds_toArray, List.set_cons_zero, List.set_cons_succ]
    refine wpAnyE_takeS (i := 3) (v := ?g60qv3x4) rfl (by kernel_rfl) (by kernel_rfl) (by kernel_rfl) (by kernel_rfl) (by kernel_rfl) (fun _ _ _ h => h) (Or.inl ⟨by rfl, ?g60qy3x4⟩) hSg60q0 ?g60qr3x4
    case g60qy3x4 => first | (intro w hSw; (try dsimp only at hSw); go_simp; done) | (intro w hSw; (try dsimp only at hSw); go_simp; with_reducible rfl)
    case' g60qr3x4 => try simp only [Act.put, List.setIfInBounds_toArray, List.set_cons_zero, List.set_cons_succ]
    refine wpAnyE_takeS (i := 4) (v := ?g60qv4x5) rfl (by kernel_rfl) (by kernel_rfl) (by kernel_rfl) (by kernel_rfl) (by kernel_rfl) (fun _ _ _ h => h) (Or.inl ⟨by rfl, ?g60qy4x5⟩) hSg60q0 ?g60qr4x5
    case g60qy4x5 => first | (intro w hSw; (try dsimp only at hSw); go_simp; done) | (intro w hSw; (try dsimp only at hSw); go_simp; with_reducible rfl)
    case' g60qr4x5 => try simp only [Act.put, List.setIfInBounds_toArray, List.set_cons_zero, List.set_cons_succ]
    refine wpAnyE_takeS (i := 5) (v := ?g60qv5x6) rfl (by kernel_rfl) (by kernel_rfl) (by kernel_rfl) (by kernel_rfl) (by kernel_rfl) (fun _ _ _ h => h) (Or.inl ⟨by rfl, ?g60qy5x6⟩) hSg60q0 ?g60qr5x6
    case g60qy5x6 => first | (intro w hSw; (try dsimp only at hSw); go_simp; done) | (intro w hSw; (try dsimp only at hSw); go_simp; with_reducible rfl)
    case' g60qr5x6 => try simp only [Act.put, List.setIfInBounds_toArray, List.set_cons_zero, List.set_cons_succ]
    refine wpAnyE_takeS (i := 6) (v := ?g60qv6x7) rfl (by kernel_rfl) (by kernel_rfl) (by kernel_rfl) (by kernel_rfl) (by kernel_rfl) (fun _ _ _ h => h) (Or.inl ⟨by rfl, ?g60qy6x7⟩) hSg60q0 ?g60qr6x7
    case g60qy6x7 => first | (intro w hSw; (try dsimp only at hSw); go_simp; done) | (intro w hSw; (try dsimp only at hSw); go_simp; with_reducible rfl)
    case' g60qr6x7 => try simp only [Act.put, List.setIfInBounds_toArray, List.set_cons_zero, List.set_cons_succ]
    refine wpAnyE_takeS (i := 7) (v := ?g60qv7x8) rfl (by kernel_rfl) (by kernel_rfl) (by kernel_rfl) (by kernel_rfl) (by kernel_rfl) (fun _ _ _ h => h) (Or.inl ⟨by rfl, ?g60qy7x8⟩) hSg60q0 ?g60qr7x8
    case g60qy7x8 => first | (intro w hSw; (try dsimp only at hSw); go_simp; done) | (intro w hSw; (try dsimp only at hSw); go_simp; with_reducible rfl)
    case' g60qr7x8 => try simp only [Act.put, List.setIfInBounds_toArray, List.set_cons_zero, List.set_cons_succ]
    refine wpAnyE_takeS (i := 8) (v := ?g60qv8x9) rfl (by kernel_rfl) (by kernel_rfl) (by kernel_rfl) (by kernel_rfl) (by kernel_rfl) (fun _ _ _ h => h) (Or.inl ⟨by rfl, ?g60qy8x9⟩) hSg60q0 ?g60qr8x9
    case g60qy8x9 => first | (intro w hSw; (try dsimp only at hSw); go_simp; done) | (intro w hSw; (try dsimp only at hSw); go_simp; with_reducible rfl)
    case' g60qr8x9 => try simp only [Act.put, List.setIfInBounds_toArray, List.set_cons_zero, List.set_cons_succ]
    refine wpAnyE_one (k := 9) (by kernel_rfl) rfl (fun K hK => ?_)
    go_simp
    refine hK.out _ _ (fun _ => ⟨((Ext.refl V).drew.alloc _).cell oc, ((Ext.refl V).drew.alloc _).cell p0, ((Ext.refl V).drew.alloc _).cell p1, ((Ext.refl V).drew.alloc _).cell p2, ((Ext.refl V).drew.alloc _).cell p3, ((Ext.refl V).drew.alloc _).cell p4, ((Ext.refl V).drew.alloc _).cell p5⟩) ?_
    clear hK K
    try simp only [Act.put, List.setIfInBounds_toArray, List.set_cons_zero, List.set_cons_succ]
    refine wpAnyE_one (k := 10) (by kernel_rfl) rfl (fun K hK => ?_)
    refine step_app1l rfl (.tmp 34) (.tmp 40) 23 rfl w.heap.size 48 j0 _ 6 80 Tryz.underlying23 HJ.out HJ0.out HJ1.out HJ2.out rfl (fdR (tyR d)) (fdR_size d) (.slice hA hn' hc') g0 rfl HSTT.out.last.dr (0, Ty.mk 0 0 0 [] []) rfl (HZF.out _ _) (by have := HG0K.out; omega) (by have := HG0K.out; omega) (by exact HXC.out.size) ?_
    intro A7 c7 w7 hown7 hg7 hloc7
    rw [← HGLN.out] at hown7 hloc7
    have HO7 := hid hown7
    have HG7 := hid hg7
    have HL7 := hid hloc7
    have HN7 := hid (fun (b : Nat) (h1 : b < V.heap.size) (h2 : (Value.slice hA hn' hc').ownBlock ≠ some b) => hg7.block b (by simp; omega) (fun e => h2 e.symm))
    have HE7 := hid (HN7.out og HOG.out.2 (fun e => HSTT.out.ne og e rfl))
    have HB7 := hid (HN7.out b (by have := HBL.out; have := HXC.out.size; omega) (fun e => by have := (HSTT.out.last.block _ e).1; have := HBL.out; omega))
    obtain ⟨qb, hqb, hqb1, hqb2⟩ := HO7.out.at0 (by omega)
    subst hqb
    obtain ⟨zs, hzr, hzc⟩ := HO7.out.cells (k := hn') (e := (0, Ty.mk 0 0 0 [] [])) (by rw [HGLN.out]; simp)
    rw [show (fdR (tyR d)).size = 6 from fdR_size d] at hzc
    obtain ⟨zx, rfl⟩ := raw_of_fd hzr
    obtain ⟨z0, y0⟩ := hzc 0 _ rfl
    obtain ⟨z1, y1⟩ := hzc 1 _ rfl
    obtain ⟨z2, y2⟩ := hzc 2 _ rfl
    obtain ⟨z3, y3⟩ := hzc 3 _ rfl
    obtain ⟨z4, y4⟩ := hzc 4 _ rfl
    obtain ⟨z5, y5⟩ := hzc 5 _ rfl
    rw [Nat.add_zero] at z0 y0
    have hqo : qb ≠ og := (by intro e; rcases HL7.out with h | h; exact HSTT.out.ne og (by rw [← e]; exact h.symm) rfl; have := h qb rfl; have h4 : V.drew.heap.size = V.heap.size := rfl; have := HOG.out.2; omega)
    have hoq : og ≠ qb := fun e => hqo e.symm
    have hqbb : b ≠ qb := (by have := HBL.out; omega)
    have hbqb : qb ≠ b := fun e => hqbb e.symm
    have HQB := hid (And.intro hqb1 hqb2)
    have k1 : (0 : Int) ≤ (hn' : Int) := by omega
    have k2 : (hn' : Int) < ((hn' + 1 : Nat) : Int) := by omega
    have k3 : (hn' : Int) < (hn' : Int) + 1 := by omega
    clear hown7 hg7 hloc7 hzr hzc hqb1 hqb2
    have bo := (World.cell?_of_block HE7.out).trans (((Ext.refl V).drew.alloc (.cells #[.int .i64 0, .int .i64 0, .int .i64 0, .int .i64 0, .slice none 0 0, .slice none 0 0] 48)).cell oc)
    have bf := (World.frozen?_of_block (a := ⟨og, m', none⟩) HE7.out).trans ((((Ext.refl V).drew.alloc (.cells #[.int .i64 0, .int .i64 0, .int .i64 0, .int .i64 0, .slice none 0 0, .slice none 0 0] 48)).frozen (p := ⟨og, m', none⟩) (World.block_lt_of_cell? _ _ oc)).trans HOFZ.out)
    rw [← HGLN.out]
    refine hK.out _ _ (fun h => absurd (show true = false from h) (by simp)) ?_
    clear hK K
    try simp only [Act.put, List.setIfInBounds_toArray, List.set_cons_zero, List.set_cons_succ]
    refine wpAnyE_takeQ (i := 11) (v := ?g60qv11x10) rfl (by kernel_rfl) (by kernel_rfl) (by kernel_rfl) (by decide) (fun _ _ _ h => h) (Or.inl ⟨by rfl, ?g60qy11x10⟩) (fun h => absurd (show true = false from h) (by simp)) ?g60qr11x10
    case g60qy11x10 => first | (intro w hSw; (try dsimp only at hSw); go_simp; done) | (intro w hSw; (try dsimp only at hSw); go_simp; with_reducible rfl)
    case' g60qr11x10 => try simp only [Act.put, List.setIfInBounds_toArray, List.set_cons_zero, List.set_cons_succ]
    refine wpAnyE_takeQ (i := 13) (v := ?g60qv13x11) rfl (by kernel_rfl) (by kernel_rfl) (by kernel_rfl) (by decide) (fun _ _ _ h => h) (Or.inl ⟨by rfl, ?g60qy13x11⟩) (fun h => absurd (show true = false from h) (by simp)) ?g60qr13x11
    case g60qy13x11 => first | (intro w hSw; (try dsimp only at hSw); go_simp; done) | (intro w hSw; (try dsimp only at hSw); go_simp; with_reducible rfl)
    case' g60qr13x11 => try simp only [Act.put, List.setIfInBounds_toArray, List.set_cons_zero, List.set_cons_succ]
    refine wpAnyE_two (k := 12) (m := 14) (by kernel_rfl) rfl rfl (fun K hK => ?g60qb12x12) (fun K hK => ?g60qb14x12)
    case' g60qb12x12 =>
     go_simp
     refine hK.out _ _ (fun h => absurd (show true = false from h) (by simp)) ?_
     clear hK K
     try simp only [Act.put, List.setIfInBounds_toArray, List.set_cons_zero, List.set_cons_succ]
     refine wpAnyE_one (k := 14) (by kernel_rfl) rfl (fun K hK => ?_)
     go_simp
     refine hK.out _ _ (fun h => absurd (show true = false from h) (by simp)) ?_
     clear hK K
     try simp only [Act.put, List.setIfInBounds_toArray, List.set_cons_zero, List.set_cons_succ]
     refine wpAnyE_done (by kernel_rfl) ?_ _
     have HAL := hid ((Ext.refl V).drew.alloc (.cells #[.int .i64 0, .int .i64 0, .int .i64 0, .int .i64 0, .slice none 0 0, .slice none 0 0] 48))
     have HX7 := hid ((HXC.out.trans HAL.out).grown HG7.out (fun q hq => (HSTT.out.last.block q hq).1))
     have hrel7 : (fdR (tyR d)).rel w7 T [.int .i64 x.1, .int .i64 x.2.kind, .int .i64 x.2.size, .int .i64 x.2.count, .slice A5 n5 c5, .slice B5 m5 e5] x := (fdR (tyR d)).ext HX7.out HREL.out
     clear z0 z1 z2 z3 z4 z5 y0 y1 y2 y3 y4 y5 bo bf p0 p1 p2 p3 p4 p5 oc
     have hput := OwnS.put (k := hn') (e := (0, Ty.mk 0 0 0 [] [])) (e' := x) (cs := [.int .i64 x.1, .int .i64 x.2.kind, .int .i64 x.2.size, .int .i64 x.2.count, .slice A5 n5 c5, .slice B5 m5 e5]) HO7.out (by rw [HGLN.out]; simp) ((fdR (tyR d)).mono (fun b hb _ => ⟨hb, by have h1 := HLIM.out b hb; have h2 := HQB.out.1; omega⟩) hrel7)
     have e1 : (g0 ++ [(0, Ty.mk 0 0 0 [] [])]).set hn' x = g0 ++ [x] := by rw [HGLN.out]; simp
     rw [fdR_size, e1] at hput
     have hgr := setRow_grown (q := qb) [.int .i64 x.1, .int .i64 x.2.kind, .int .i64 x.2.size, .int .i64 x.2.count, .slice A5 n5 c5, .slice B5 m5 e5] w7 (hn' * 6)
     have hg' : (V.drew.alloc (.cells #[.int .i64 0, .int .i64 0, .int .i64 0, .int .i64 0, .slice none 0 0, .slice none 0 0] 48)).grownBy (setRow w7 qb (hn' * 6) [.int .i64 x.1, .int .i64 x.2.kind, .int .i64 x.2.size, .int .i64 x.2.count, .slice A5 n5 c5, .slice B5 m5 e5]) (SlH.val ⟨hA, hn', hc'⟩).ownBlock := by
      refine ⟨hgr.os.trans HG7.out.os, hgr.tape.trans HG7.out.tape, hgr.output.trans HG7.out.output, Nat.le_trans HG7.out.size hgr.size, fun k hk hne => ?_⟩
      rw [Go.Deco.setRow_heap _ w7 qb _ k (fun e => by
       rcases HL7.out with h | h
       ·exact hne (by rw [e]; exact h)
       ·have h3 := h qb rfl
        simp at hk
        have h4 : V.drew.heap.size = V.heap.size := rfl
        omega)]
      exact HG7.out.block k hk hne
     have hgrow := (HSTT.out.ext HAL.out).grow (h' := ⟨some ⟨qb, 0, none⟩, hn' + 1, c7⟩) hg' hput (by rcases HL7.out with h | h; exact .inl h; exact .inr fun b hb => by have := h b hb; simp; exact this) (og := og) (n := m1) (c := co') rfl
     rw [HM'.out] at hgrow
     have hx9 := (setRow_ext [.int .i64 x.1, .int .i64 x.2.kind, .int .i64 x.2.size, .int .i64 x.2.count, .slice A5 n5 c5, .slice B5 m5 e5] qb (hn' * 6) HX7.out (HQB.out.1)).setCell (p := ⟨og, m', none⟩) (by exact HOG.out.1) (.slice (some ⟨qb, 0, none⟩) (hn' + 1) c7)
     obtain ⟨W9, hW9⟩ : ∃ W9, (setRow w7 qb (hn' * 6) [.int .i64 x.1, .int .i64 x.2.kind, .int .i64 x.2.size, .int .i64 x.2.count, .slice A5 n5 c5, .slice B5 m5 e5]).setCell ⟨og, m', none⟩ (.slice (some ⟨qb, 0, none⟩) (hn' + 1) c7) = W9 := ⟨_, rfl⟩
     have hN : ((((((w7.setCell ⟨qb, hn' * 6, none⟩ (.int .i64 x.1)).setCell ⟨qb, hn' * 6 + 1, none⟩ (.int .i64 x.2.kind)).setCell ⟨qb, hn' * 6 + 2, none⟩ (.int .i64 x.2.size)).setCell ⟨qb, hn' * 6 + 3, none⟩ (.int .i64 x.2.count)).setCell ⟨qb, hn' * 6 + 4, none⟩ (.slice A5 n5 c5)).setCell ⟨qb, hn' * 6 + 5, none⟩ (.slice B5 m5 e5)).setCell ⟨og, m', none⟩ (.slice (some ⟨qb, 0, none⟩) (hn' + 1) c7) = W9 := hW9
     rw [hN]
     rw [show SlH.val ⟨some ⟨qb, 0, none⟩, hn' + 1, c7⟩ = (.slice (some ⟨qb, 0, none⟩) (hn' + 1) c7) from rfl, hW9] at hgrow
     rw [hW9] at hx9
     have hg9 := hgrow
     clear hgrow hput hgr hg' hN hW9 e1 hrel7
     have HX9 := hid hx9
     have HG9 := hid hg9
     clear hx9 hg9
     have p0 := HX9.out.cell HPP.out.1
     have p1 := HX9.out.cell HPP.out.2.1
     have p2 := HX9.out.cell HPP.out.2.2.1
     have p3 := HX9.out.cell HPP.out.2.2.2.1
     have p4 := HX9.out.cell HPP.out.2.2.2.2.1
     have p5 := HX9.out.cell HPP.out.2.2.2.2.2
     go_wp2_with fail
     refine (HE.out _ HX9.out).mono ?_
     rintro e wA ⟨rfl, hxA⟩
     have HNEW : Hid (GrpI d w.heap.size T wA (.slice (some ⟨og, 0, none⟩) m1 co') (gs ++ [g0 ++ [x]])) := hid (.inr ⟨hs, gs, _, g0 ++ [x], rfl, HG9.out.ext hxA⟩)
     have HXN := hid (HX9.out.trans hxA)
     have HGN : Hid ((gs ++ [g0 ++ [x]]).length = m1) := hid (by
      have h1 := HJJ.out.2.1
      have h2 := HJJ.out.1.closed.len
      rw [List.length_append, ← h2]
      exact h1)
     clear hxA p0 p1 p2 p3 p4 p5
     go_wp2
     all_goals
      first
       | go_roundw
       | refine ⟨?rel, ?measure⟩
      case rel => exact ⟨k + 1, m1, max last0 en, some ⟨og, 0, none⟩, co', _, by omega, by omega, by omega, by omega, by go_num, rfl, by first | rfl | (congr 1; omega), HFN, HGN, HNEW, HXN⟩
      case measure => simp [intOf]; omega
    case' g60qb14x12 =>
     go_simp
     refine hK.out _ _ (fun h => absurd (show true = false from h) (by simp)) ?_
     clear hK K
     try simp only [Act.put, List.setIfInBounds_toArray, List.set_cons_zero, List.set_cons_succ]
     refine wpAnyE_one (k := 12) (by kernel_rfl) rfl (fun K hK => ?_)
     go_simp
     refine hK.out _ _ (fun h => absurd (show true = false from h) (by simp)) ?_
     clear hK K
     try simp only [Act.put, List.setIfInBounds_toArray, List.set_cons_zero, List.set_cons_succ]
     refine wpAnyE_done (by kernel_rfl) ?_ _
     have HAL := hid ((Ext.refl V).drew.alloc (.cells #[.int .i64 0, .int .i64 0, .int .i64 0, .int .i64 0, .slice none 0 0, .slice none 0 0] 48))
     have HX7 := hid ((HXC.out.trans HAL.out).grown HG7.out (fun q hq => (HSTT.out.last.block q hq).1))
     have hrel7 : (fdR (tyR d)).rel w7 T [.int .i64 x.1, .int .i64 x.2.kind, .int .i64 x.2.size, .int .i64 x.2.count, .slice A5 n5 c5, .slice B5 m5 e5] x := (fdR (tyR d)).ext HX7.out HREL.out
     clear z0 z1 z2 z3 z4 z5 y0 y1 y2 y3 y4 y5 bo bf p0 p1 p2 p3 p4 p5 oc
     have hgrow := (HSTT.out.ext HAL.out).grow (h' := ⟨some ⟨qb, 0, none⟩, hn' + 1, c7⟩) HG7.out HO7.out (by rcases HL7.out with h | h; exact .inl h; exact .inr fun b hb => by have := h b hb; simp; exact this) (og := og) (n := m1) (c := co') rfl
     rw [HM'.out] at hgrow
     have hx8 := HX7.out.setCell (p := ⟨og, m', none⟩) (by exact HOG.out.1) (.slice (some ⟨qb, 0, none⟩) (hn' + 1) c7)
     have hput := GrpSt.putLast (f := x) hgrow (q := qb) (n := hn' + 1) (c := c7) rfl ((fdR (tyR d)).ext hx8 HREL.out)
     rw [← HGLN.out] at hput
     have hx9 := setRow_ext [.int .i64 x.1, .int .i64 x.2.kind, .int .i64 x.2.size, .int .i64 x.2.count, .slice A5 n5 c5, .slice B5 m5 e5] qb (hn' * 6) hx8 (by exact HQB.out.1)
     obtain ⟨W9, hW9⟩ : ∃ W9, setRow (w7.setCell ⟨og, m', none⟩ (.slice (some ⟨qb, 0, none⟩) (hn' + 1) c7)) qb (hn' * 6) [.int .i64 x.1, .int .i64 x.2.kind, .int .i64 x.2.size, .int .i64 x.2.count, .slice A5 n5 c5, .slice B5 m5 e5] = W9 := ⟨_, rfl⟩
     have hN : ((((((w7.setCell ⟨og, m', none⟩ (.slice (some ⟨qb, 0, none⟩) (hn' + 1) c7)).setCell ⟨qb, hn' * 6, none⟩ (.int .i64 x.1)).setCell ⟨qb, hn' * 6 + 1, none⟩ (.int .i64 x.2.kind)).setCell ⟨qb, hn' * 6 + 2, none⟩ (.int .i64 x.2.size)).setCell ⟨qb, hn' * 6 + 3, none⟩ (.int .i64 x.2.count)).setCell ⟨qb, hn' * 6 + 4, none⟩ (.slice A5 n5 c5)).setCell ⟨qb, hn' * 6 + 5, none⟩ (.slice B5 m5 e5) = W9 := hW9
     rw [hN]
     have hg9 : GrpSt d w.heap.size T 23 48 W9 (.slice (some ⟨og, 0, none⟩) m1 co') hs gs ⟨some ⟨qb, 0, none⟩, hn' + 1, c7⟩ (g0 ++ [x]) := by rw [← hW9]; exact hput
     rw [hW9] at hx9
     clear hgrow hput hN hW9 hx8 hrel7
     have HX9 := hid hx9
     have HG9 := hid hg9
     clear hx9 hg9
     have p0 := HX9.out.cell HPP.out.1
     have p1 := HX9.out.cell HPP.out.2.1
     have p2 := HX9.out.cell HPP.out.2.2.1
     have p3 := HX9.out.cell HPP.out.2.2.2.1
     have p4 := HX9.out.cell HPP.out.2.2.2.2.1
     have p5 := HX9.out.cell HPP.out.2.2.2.2.2
     go_wp2_with fail
     refine (HE.out _ HX9.out).mono ?_
     rintro e wA ⟨rfl, hxA⟩
     have HNEW : Hid (GrpI d w.heap.size T wA (.slice (some ⟨og, 0, none⟩) m1 co') (gs ++ [g0 ++ [x]])) := hid (.inr ⟨hs, gs, _, g0 ++ [x], rfl, HG9.out.ext hxA⟩)
     have HXN := hid (HX9.out.trans hxA)
     have HGN : Hid ((gs ++ [g0 ++ [x]]).length = m1) := hid (by
      have h1 := HJJ.out.2.1
      have h2 := HJJ.out.1.closed.len
      rw [List.length_append, ← h2]
      exact h1)
     clear hxA p0 p1 p2 p3 p4 p5
     go_wp2
     all_goals
      first
       | go_roundw
       | refine ⟨?rel, ?measure⟩
      case rel => exact ⟨k + 1, m1, max last0 en, some ⟨og, 0, none⟩, co', _, by omega, by omega, by omega, by omega, by go_num, rfl, by first | rfl | (congr 1; omega), HFN, HGN, HNEW, HXN⟩
      case measure => simp [intOf]; omega
  ·have hkn : ¬ (k : Int) < (n : Int) := by omega
   obtain rfl : k = n := by omega
   have hfin : G = G0 := by
    have h := HF.out
    rw [List.take_of_length_le (by have := HLL.out; omega)] at h
    rw [← HG0.out, h]
   have HFIN := hid hfin
   clear hfin
   go_wp2
   go_ret
   have hlen : m = G0.length := by rw [← HFIN.out, HGL.out]
   refine ⟨Ao, co, by rw [← hlen]; rfl, ?_, HX.out⟩
   ·rw [← hlen]
    rcases HST.out with ⟨h1, h2, -, -⟩ | ⟨hs, gs, h, g, h1, h2⟩
    ·injection h2 with h2 h3 h4
     subst h2 h3 h4
     rw [← HFIN.out, h1]
     exact Sl.nil
    ·rw [← HFIN.out, h1]
     exact h2.sl
end Go.Proofs.YtacmjhcfjhpkeaaGreatDoor
