/- The library's stable sort at fields: SortStableFunc, whatever the length; a cloned row sorted. structs: groups. -/
import Derived.Test.YtacmjhcfjhpkeaaGreatDoorFsym
import Derived.Test.YtacmjhcfjhpkeaaGreatDoorPlbm
import Derived.Test.YtacmjhcfjhpkeaaGreatDoorTydm
import Derived.Test.YtacmjhcfjhpkeaaGreatDoorStam
namespace Go.Proofs.YtacmjhcfjhpkeaaGreatDoor
open Go.RowKit Go.Deco
set_option linter.unusedSimpArgs false
set_option linter.unusedVariables false

def Nowt (w : World) (e : Ending) (w' : World) : Prop := e = .returned (.tuple #[]) ∧ w = w'
set_option maxRecDepth 100000 in
set_option maxHeartbeats 1000000 in
theorem insc0 (w : World) (A : Option Addr) (c : Nat) (F : Value) : Calls Tryz.prog 137 #[.slice A 0 c, .int .i64 0, .int .i64 0, F] w (Nowt w) := by
 go_enter Tryz.func137, Tryz.ntmps137
 go_wp2
 go_loop [8] (fun i => i = .int .i64 1) (fun i => 0)
 case atStart => rfl
 case round =>
  obtain rfl := hrel
  go_wp2
  (try simp only [Exit.inBlock, Exit.then])
  refine bodyPost_ret (results_none rfl _ _ _) rfl ?_
  exact ⟨rfl, rfl⟩
set_option maxRecDepth 100000 in
set_option maxHeartbeats 1000000 in
theorem stable0 (w : World) (A : Option Addr) (c : Nat) (F : Value) : Calls Tryz.prog 112 #[.slice A 0 c, .int .i64 0, F] w (Nowt w) := by
 go_enter Tryz.func112, Tryz.ntmps112
 go_wp2
 go_loop [7, 8] (fun i j => i = .int .i64 0 ∧ j = .int .i64 20) (fun i j => 0)
 case atStart => exact ⟨rfl, rfl⟩
 case round =>
  obtain ⟨rfl, rfl⟩ := hrel
  go_wp2_with fail
  refine (insc0 w A c F).mono ?_
  rintro e w1 ⟨rfl, rfl⟩
  go_wp2
  go_loop [6] (fun i => i = .int .i64 20) (fun i => 0)
  case atStart => rfl
  case round =>
   obtain rfl := hrel
   go_wp2
   (try simp only [Exit.inBlock, Exit.then])
   refine bodyPost_ret (results_none rfl _ _ _) rfl ?_
   exact ⟨rfl, rfl⟩
set_option maxRecDepth 100000 in
set_option maxHeartbeats 1000000 in
theorem sortst_any (wo w : World) (g n c : Nat) (l : List Raw) (hx : Ext wo w) (ho : OwnS rawR w wo.heap.size 48 All (.slice (some ⟨g, 0, none⟩) n c) l) (hn : n ≤ 1000000) :
  Calls Tryz.prog 82 #[.slice (some ⟨g, 0, none⟩) n c, .func (.func 83) #[] #[]] w (RowS wo g n c (stab ltRw l)) := by
 have HS := hid (stableF_any wo w g n c l hx ho hn)
 clear hx ho
 go_enter Tryz.func82, Tryz.ntmps82
 go_wp2_with fail
 refine (HS.out).mono ?_
 rintro e w1 ⟨rfl, hx1, ho1⟩
 have HX1 := hid hx1
 have HO1 := hid ho1
 clear hx1 ho1
 go_wp2
 (try simp only [Exit.inBlock, Exit.then])
 refine bodyPost_ret (results_none rfl _ _ _) rfl ?_
 exact ⟨rfl, HX1.out, HO1.out⟩
set_option maxRecDepth 100000 in
set_option maxHeartbeats 1000000 in
theorem sortst0 (w : World) (A : Option Addr) (c : Nat) (F : Value) : Calls Tryz.prog 82 #[.slice A 0 c, F] w (Nowt w) := by
 go_enter Tryz.func82, Tryz.ntmps82
 go_wp2_with fail
 refine (stable0 w A c F).mono ?_
 rintro e w1 ⟨rfl, rfl⟩
 go_wp2
 (try simp only [Exit.inBlock, Exit.then])
 refine bodyPost_ret (results_none rfl _ _ _) rfl ?_
 exact ⟨rfl, rfl⟩

/-- A row of fields that was cloned in the world wo is sorted in place. -/
def SortedF (d : Nat) (T : Nat → Prop) (wo : World) (A : Option Addr) (n c : Nat) (l : List (Int × Ty)) (e : Ending) (w' : World) : Prop := e = .returned (.tuple #[]) ∧ Ext wo w' ∧ OwnS (fdR (tyR d)) w' wo.heap.size 48 T (.slice A n c) l
theorem sortF_any (d : Nat) (T : Nat → Prop) (wo w : World) (A : Option Addr) (n c : Nat) (l : List (Int × Ty)) (hx : Ext wo w) (hlim : ∀ b, T b → b < wo.heap.size) (ho : OwnS (fdR (tyR d)) w wo.heap.size 48 T (.slice A n c) l) (hn : n ≤ 1000000) :
  Calls Tryz.prog 82 #[.slice A n c, .func (.func 83) #[] #[]] w (SortedF d T wo A n c (stab ltF l)) := by
 by_cases h0 : n = 0
 ·subst h0
  have hl : l = [] := List.length_eq_zero_iff.1 ho.len.symm
  subst hl
  refine (sortst0 w A c _).mono ?_
  rintro e w1 ⟨rfl, rfl⟩
  exact ⟨rfl, hx, ho⟩
 ·obtain ⟨g, rfl, hg1, hg2⟩ := ho.at0 (by omega)
  obtain ⟨rl, h1, h2⟩ := own_raw (T := All) ho
  refine (sortst_any wo w g n c rl hx h1 hn).mono ?_
  rintro e w1 ⟨rfl, hx1, ho1⟩
  refine ⟨rfl, hx1, raw_own ho1 ?_⟩
  have h3 := All2.stab (lt := ltRw) (lu := ltF) (fun _ _ _ _ h h' => h.lt h') h2
  refine h3.mono fun x f h => ?_
  exact (fdR (tyR d)).keep (fun b hb _ => by
   have hb' : b < wo.heap.size := hlim b hb.1
   rw [hx1.block hb', hx.block hb']) h
end Go.Proofs.YtacmjhcfjhpkeaaGreatDoor

namespace Go.Proofs.YtacmjhcfjhpkeaaGreatDoor
open Go.RowKit Go.Deco
set_option linter.unusedSimpArgs false
set_option linter.unusedVariables false

theorem info_fds : (Tryz.prog.info? 23).map (fun i => (i.zero, i.size, i.bytes)) = some (some (.slice none 0 0), 1, 24) := by kernel_rfl
def GroupsIs (d : Nat) (T : Nat → Prop) (w : World) (l : List (Int × Ty)) (e : Ending) (w' : World) : Prop := ∃ A c, e = .returned (.slice A (groupsF l).length c) ∧ Sl (slR (fdR (tyR d))) w' (fun b => T b ∨ w.heap.size ≤ b) (.slice A (groupsF l).length c) (groupsF l) ∧ Ext w w'
/-- The state of the loop: nothing yet, or groups whose last one grows. -/
def GrpI (d base : Nat) (T : Nat → Prop) (w : World) (ov : Value) (G : List (List (Int × Ty))) : Prop :=
 (G = [] ∧ ov = .slice none 0 0 ∧ (∀ b, T b → b < base) ∧ base ≤ w.heap.size) ∨ ∃ hs gs h g, G = gs ++ [g] ∧ GrpSt d base T 23 48 w ov hs gs h g
theorem GrpI.ext {d base : Nat} {T : Nat → Prop} {w w' : World} {ov : Value} {G : List (List (Int × Ty))} (h : GrpI d base T w ov G) (he : Ext w w') : GrpI d base T w' ov G := by
 rcases h with ⟨h1, h2, h3, h4⟩ | ⟨hs, gs, h, g, h1, h2⟩
 ·exact .inl ⟨h1, h2, h3, Nat.le_trans h4 he.size⟩
 ·exact .inr ⟨hs, gs, h, g, h1, h2.ext he⟩
/-- What a row of slices holds is read off its cells. -/
theorem slh_uniq {w : World} {base : Nat} {e : TypeId} {v : Value} {l m : List SlH} (h : OwnS slhR w base e All v l) (k : OwnS slhR w base e All v m) : l = m := by
 have hlen : l.length = m.length := by
  obtain ⟨A, c, h1, _⟩ := h.form
  obtain ⟨A', c', h2, _⟩ := k.form
  rw [h1] at h2
  injection h2
 refine List.ext_getElem? fun i => ?_
 by_cases hi : i < l.length
 ·obtain ⟨A, c, hv, _⟩ := h.form
  subst hv
  obtain ⟨g, rfl, -⟩ := h.at0 (by omega)
  have e1 := (slhP.cell h (List.getElem?_eq_getElem hi) (i := 0) rfl).1
  have e2 := (slhP.cell k (List.getElem?_eq_getElem (show i < m.length by omega)) (i := 0) rfl).1
  rw [e1] at e2
  injection e2 with e2
  rw [List.getElem?_eq_getElem hi, List.getElem?_eq_getElem (show i < m.length by omega)]
  congr 1
  have e3 : SlH.val l[i] = SlH.val m[i] := e2
  unfold SlH.val at e3
  injection e3 with h1 h2 h3
  cases hx : l[i]
  cases hy : m[i]
  rw [hx] at h1 h2 h3
  rw [hy] at h1 h2 h3
  simp only at h1 h2 h3
  rw [h1, h2, h3]
 ·rw [List.getElem?_eq_none (by omega), List.getElem?_eq_none (by omega)]
/-- One element, just laid. -/
theorem own_lit1 {E : Type} {R : Rep E} {w : World} {base : Nat} {e : TypeId} {T : Nat → Prop} {cs : List Value} {x : E} (hb : base ≤ w.heap.size) (hr : R.rel w (fun b => T b ∧ b < w.heap.size) cs x) :
  OwnS R (w.alloc (.cells cs.toArray e)) base e T (.slice (some ⟨w.heap.size, 0, none⟩) 1 1) [x] := by
 have hl := R.len hr
 have ho := World.ownsRow_lit (size := R.size) (e := e) w cs.toArray 1 hb (by simp [maxLen]) (by simpa using hl)
 refine ⟨cs, by simpa using ho, ?_⟩
 refine Chunks.single (R.mono (fun b hb _ => ⟨hb.1, own_ne hb.2⟩) (R.ext ((Ext.refl w).alloc _) hr))

set_option maxRecDepth 100000 in
set_option maxHeartbeats 8000000 in
theorem groups_any (d : Nat) (T : Nat → Prop) (w : World) (A : Option Addr) (n c : Nat) (l : List (Int × Ty)) (hlim : ∀ b, T b → b < w.heap.size) (hl : Sl (fdR (tyR d)) w T (.slice A n c) l) (hn : n ≤ 100000) (hoff : ∀ f ∈ l, 0 ≤ f.1 ∧ f.1 ≤ 131072) :
  Calls Tryz.prog 41 #[.slice A n c] w (GroupsIs d T w l) := by
 have HLN := hid hl.len
 have HLIM := hid hlim
 clear hlim
 obtain ⟨G0, hG0⟩ : ∃ G0, groupsF l = G0 := ⟨_, rfl⟩
 obtain ⟨L, hL⟩ : ∃ L, stab ltF l = L := ⟨_, rfl⟩
 have HG0 : Hid ((L.foldl grpS ([], 0)).1 = G0) := hid (by rw [← hG0, ← hL]; rfl)
 have HOFF : Hid (∀ f ∈ L, 0 ≤ f.1 ∧ f.1 ≤ 131072) := hid (fun f hf => hoff f (by rw [← hL] at hf; exact (stabF_mem l f).1 hf))
 have HLL : Hid (n = L.length) := hid (by rw [← hL, stab_len]; exact HLN.out)
 have HC1 := hid (clonefd_any d w T A n c l hl (by omega))
 have HG0' := hid hG0
 have HL := hid hL
 clear hl hoff hG0 hL
 obtain ⟨i0, hi0, hz0, hz1, hz2⟩ := info_parts info_fds
 have HI := hid hi0
 have HI0 := hid hz0
 have HI1 := hid hz1
 have HI2 := hid hz2
 obtain ⟨j0, hj0, hy0, hy1, hy2⟩ := info_parts info_fd
 have HJ := hid hj0
 have HJ0 := hid hy0
 have HJ1 := hid hy1
 have HJ2 := hid hy2
 clear hi0 hz0 hz1 hz2 hj0 hy0 hy1 hy2
 unfold GroupsIs
 go_enter Tryz.func41, Tryz.ntmps41
 go_wp2_with fail
 refine (HC1.out).mono ?_
 rintro e w1 ⟨A1, c1, rfl, ho1, hx1⟩
 have HX1 := hid hx1
 have HC2 := hid (sortF_any d T w w1 A1 n c1 l hx1 HLIM.out ho1 (by omega))
 rw [HL.out] at HC2
 clear hx1 ho1 HC1
 go_wp2_with fail
 refine (HC2.out).mono ?_
 rintro e w2 ⟨rfl, hx2, ho2⟩
 have HX2 := hid hx2
 have HO2 := hid ho2
 have HS2 := hid (ho2.slT (S := fun b => b < w2.heap.size) (fun b hb => by have := hx2.size; have hb' : b < w.heap.size := HLIM.out b hb; omega) (fun b hb => (ho2.block b hb).2))
 clear hx2 ho2 HC2
 go_wp2
 go_loopw [15, 4, 5] (fun i s4 s5 wr => ∃ (k m : Nat) (last : Int) (Ao : Option Addr) (co : Nat) (G : List (List (Int × Ty))), k ≤ n ∧ m ≤ k ∧ 0 ≤ last ∧ last ≤ 262144 ∧ i = .int .i64 k ∧ s4 = .slice Ao m co ∧ s5 = .int .i64 last ∧
  Hid ((L.take k).foldl grpS ([], 0) = (G, last)) ∧ Hid (G.length = m) ∧ Hid (GrpI d w2.heap.size T wr (.slice Ao m co) G) ∧ Hid (Ext w2 wr)) (fun i _ _ _ => n - (intOf i).toNat)
 case atStart => exact ⟨0, 0, 0, none, 0, [], by omega, by omega, by omega, by omega, rfl, rfl, rfl, hid rfl, hid rfl, hid (.inl ⟨rfl, rfl, fun b hb => Nat.lt_of_lt_of_le (HLIM.out b hb) HX2.out.size, Nat.le_refl _⟩), hid (Ext.refl _)⟩
 case round =>
  obtain ⟨k, m, last, Ao, co, G, hk, hm, hl0, hl1, rfl, rfl, rfl, HF, HGL, HST, HX⟩ := hrel
  by_cases h1 : k < n
  ·obtain ⟨x, hx⟩ : ∃ x, L[k]? = some x := ⟨_, List.getElem?_eq_getElem (by have := HLL.out; omega)⟩
   obtain ⟨g1, rfl, hg1, hg2⟩ := HO2.out.at0 (by omega)
   obtain ⟨cs, hr, hcs⟩ := HO2.out.cells hx
   have hr := (fdR (tyR d)).mono (S' := T) (fun b hb _ => hb.1) hr
   rw [show (fdR (tyR d)).size = 6 from fdR_size d] at hcs
   obtain ⟨d', hd⟩ : ∃ d', d = d' + 1 := by
    cases d with
    | zero => obtain ⟨r, _, h, _⟩ := hr; exact h.elim
    | succ d' => exact ⟨d', rfl⟩
   have hr' := hr
   rw [hd] at hr'
   obtain ⟨A5, n5, c5, B5, m5, e5, hveq, hi0, hv1⟩ := fd_rel.1 hr'
   injection hveq with hveq
   have hcs' : cs = [.int .i64 x.1, .int .i64 x.2.kind, .int .i64 x.2.size, .int .i64 x.2.count, .slice A5 n5 c5, .slice B5 m5 e5] := by
    have := congrArg Array.toList hveq
    simpa using this
   subst hcs'
   have p0 := HX.out.cell (hcs 0 _ rfl).1
   have p1 := HX.out.cell (hcs 1 _ rfl).1
   have p2 := HX.out.cell (hcs 2 _ rfl).1
   have p3 := HX.out.cell (hcs 3 _ rfl).1
   have p4 := HX.out.cell (hcs 4 _ rfl).1
   have p5 := HX.out.cell (hcs 5 _ rfl).1
   rw [Nat.add_zero] at p0
   have HREL := hid hr
   have HD := hid hd
   have HXX := hid hx
   have hxo := HOFF.out x (List.mem_of_getElem? hx)
   have HFD := hid (fun (w' : World) (hw : Ext w2 w') => (FdV.ext ⟨A5, n5, c5, B5, m5, e5, rfl, hi0, hv1.all⟩ hw : FdV d' w' All (.agg #[.int .i64 x.1, .int .i64 x.2.kind, .int .i64 x.2.size, .int .i64 x.2.count, .slice A5 n5 c5, .slice B5 m5 e5]) x))
   have HE := hid (fun (w' : World) (hw : Ext w2 w') => end_any d' w' x _ (HFD.out w' hw) hxo.1 hxo.2)
   have hen0 := endF_ge x
   have hen1 : endF x ≤ 262144 := by have := sizeT_le x.2; unfold endF; omega
   obtain ⟨en, hen⟩ : ∃ en, endF x = en := ⟨_, rfl⟩
   have HEN := hid hen
   rw [hen] at HE hen0 hen1
   have HXO := hid hxo
   clear hcs hr hr' hd hveq hi0 hv1 hx hg1 hg2 hen hxo
   obtain ⟨W0, hW0⟩ : ∃ W0, wr.alloc (.cells #[.int .i64 x.1, .int .i64 x.2.kind, .int .i64 x.2.size, .int .i64 x.2.count, .slice A5 n5 c5, .slice B5 m5 e5] 48) = W0 := ⟨_, rfl⟩
   have hE0 : Ext wr W0 := by rw [← hW0]; exact (Ext.refl _).alloc _
   have q0 : W0.cell? ⟨wr.heap.size, 0, none⟩ = some (.int .i64 x.1) := by rw [← hW0]; simp [go_sem]
   have q1 : W0.cell? ⟨wr.heap.size, 1, none⟩ = some (.int .i64 x.2.kind) := by rw [← hW0]; simp [go_sem]
   have q2 : W0.cell? ⟨wr.heap.size, 2, none⟩ = some (.int .i64 x.2.size) := by rw [← hW0]; simp [go_sem]
   have q3 : W0.cell? ⟨wr.heap.size, 3, none⟩ = some (.int .i64 x.2.count) := by rw [← hW0]; simp [go_sem]
   have q4 : W0.cell? ⟨wr.heap.size, 4, none⟩ = some (.slice A5 n5 c5) := by rw [← hW0]; simp [go_sem]
   have q5 : W0.cell? ⟨wr.heap.size, 5, none⟩ = some (.slice B5 m5 e5) := by rw [← hW0]; simp [go_sem]
   have HE0 := hid hE0
   clear hE0
   have hmn : m ≤ 100000 := by omega
   by_cases hc : 0 < m ∧ x.1 < last
   ·obtain ⟨h0, hxl⟩ := hc
    have d0 : decide ((m : Int) > 0) = true := decide_eq_true (by omega)
    have d1 : decide (x.1 < last) = true := decide_eq_true hxl
    obtain ⟨hs, gs, hh, g0, hG, hst⟩ : ∃ hs gs h g, G = gs ++ [g] ∧ GrpSt d w2.heap.size T 23 48 wr (.slice Ao m co) hs gs h g := by
     rcases HST.out with ⟨h1, -, -, -⟩ | h1
     ·have := HGL.out; rw [h1] at this; simp at this; omega
     ·exact h1
    have hml : m = hs.length + 1 := by have := hst.out.len; simpa using this
    obtain ⟨m', hm'⟩ : ∃ m', hs.length = m' := ⟨_, rfl⟩
    have hmm : m = m' + 1 := by omega
    have w1' : IntKind.i64.wrap ((m : Int) - 1) = (m' : Int) := by rw [IntWalk.i64_in _ (by omega)]; omega
    have j1 : (0 : Int) ≤ (m' : Int) := by omega
    have j2 : (m' : Int) < (m : Int) := by omega
    obtain ⟨og, hog, hog1, hog2⟩ := hst.out.at0 (by omega)
    subst hog
    have hcell := slhP.cell hst.out (k := m') (x := hh) (i := 0) (u := hh.val) (by rw [← hm']; simp) rfl
    rw [show m' * slhR.size + 0 = m' by simp [slhR]] at hcell
    obtain ⟨oc, ofz⟩ := hcell
    obtain ⟨hA, hn', hc'⟩ := hh
    have hgl : hn' = g0.length := hst.last.len
    have hg0k : g0.length ≤ k := by
     have h1 := grp_flat (L.take k) ([], 0)
     rw [HF.out, hG, List.length_take] at h1
     simp at h1
     omega
    have HFN : Hid ((L.take (k + 1)).foldl grpS ([], 0) = (gs ++ [g0 ++ [x]], max last en)) := hid (by
     rw [take_snoc' HXX.out, List.foldl_append, HF.out]
     have hyes : G ≠ [] ∧ x.1 < last := ⟨fun e => by rw [e] at hG; simp at hG, hxl⟩
     simp only [List.foldl_cons, List.foldl_nil, grpS, HEN.out]
     rw [if_pos hyes, hG]
     simp)
    have HGN : Hid ((gs ++ [g0 ++ [x]]).length = m) := hid (by have := HGL.out; rw [hG] at this; simpa using this)
    have HSTT := hid hst
    have HGLN := hid hgl
    have HG0K := hid hg0k
    have HM' := hid hm'
    have HOG := hid (And.intro hog1 hog2)
    have HOFZ := hid ofz
    have HNE : Hid (wr.heap.size ≠ og) := hid (by omega)
    have oc0 := HE0.out.cell oc
    clear hG hst hml hm' hmm hgl hg0k hog1 hog2 ofz oc
    go_upto_region 10 with fail
    clear hW0 p0 p1 p2 p3 p4 p5
    go_cut [30] from 29 to 30 (fun s30 wx => (s30 = .bool true ∨ s30 = .bool false) ∧ Hid (Ext W0 wx))
    case first =>
     go_region_with (fail)
     all_goals
      go_wp2_with fail
      go_meet
      exact ⟨by simp, hid (((Ext.refl W0).alloc _).drew)⟩
    case rest =>
     obtain ⟨hb, HXC⟩ := hcut
     have q0 := HXC.out.cell q0
     have q1 := HXC.out.cell q1
     have q2 := HXC.out.cell q2
     have q3 := HXC.out.cell q3
     have q4 := HXC.out.cell q4
     have q5 := HXC.out.cell q5
     have oc := HXC.out.cell oc0
     have HSTC := hid (HSTT.out.ext (HE0.out.trans HXC.out))
     have HXW := hid (HX.out.trans (HE0.out.trans HXC.out))
     have HBC : Hid (wr.heap.size < wc.heap.size) := hid (World.block_lt_of_cell? _ _ q0)
     have HOFC : Hid (wc.frozen? ⟨og, m', none⟩ = false) := hid (((HE0.out.trans HXC.out).frozen (p := ⟨og, m', none⟩) HOG.out.2).trans HOFZ.out)
     clear oc0
     obtain ⟨V, hV⟩ : ∃ V, V = wc := ⟨_, rfl⟩
     obtain rfl := hV
     rcases hb with rfl | rfl
     ·have HZF : Hid (∀ (W : World) (S : Nat → Prop), (fdR (tyR d)).rel W S [.int .i64 0, .int .i64 0, .int .i64 0, .int .i64 0, .slice none 0 0, .slice none 0 0] (0, Ty.mk 0 0 0 [] [])) := hid (fun W S => by
       rw [HD.out]
       exact fd_rel.2 ⟨none, 0, 0, none, 0, 0, rfl, by show i64b 0; unfold i64b; omega, tyV_leaf d' W S 0 0 (by unfold i64b; omega) (by unfold i64b; omega)⟩)
      go_wp2_with fail
      refine wp_region_split 13 (by kernel_rfl) rfl rfl (by kernel_rfl) (fun w' => w'.cell? ⟨og, m', none⟩ = some (.slice hA hn' hc') ∧ w'.cell? ⟨wr.heap.size, 0, none⟩ = some (.int .i64 x.1) ∧ w'.cell? ⟨wr.heap.size, 1, none⟩ = some (.int .i64 x.2.kind) ∧ w'.cell? ⟨wr.heap.size, 2, none⟩ = some (.int .i64 x.2.size) ∧ w'.cell? ⟨wr.heap.size, 3, none⟩ = some (.int .i64 x.2.count) ∧ w'.cell? ⟨wr.heap.size, 4, none⟩ = some (.slice A5 n5 c5) ∧ w'.cell? ⟨wr.heap.size, 5, none⟩ = some (.slice B5 m5 e5)) ⟨oc, q0, q1, q2, q3, q4, q5⟩ (fun hSg58q0 => ?_)
      refine rgT6 0 1 2 3 4 5 ?_
      refine rgT4 6 7 8 9 ?_
      refine rgC 10 (fun K hK => ?_)
      go_simp
      refine rgK hK ⟨((Ext.refl V).drew.alloc _).cell oc, ((Ext.refl V).drew.alloc _).cell q0, ((Ext.refl V).drew.alloc _).cell q1, ((Ext.refl V).drew.alloc _).cell q2, ((Ext.refl V).drew.alloc _).cell q3, ((Ext.refl V).drew.alloc _).cell q4, ((Ext.refl V).drew.alloc _).cell q5⟩ (fun hSg58q1 => ?_)
      clear hK K
      refine rgC 11 (fun K hK => ?_)
      refine step_app1l rfl (.tmp 38) (.tmp 41) 23 rfl w2.heap.size 48 j0 _ 6 80 Tryz.underlying23 HJ.out HJ0.out HJ1.out HJ2.out rfl (fdR (tyR d)) (fdR_size d) (.slice hA hn' hc') g0 rfl HSTC.out.last.dr (0, Ty.mk 0 0 0 [] []) rfl (HZF.out _ _) (by have := HG0K.out; omega) (by have := HG0K.out; omega) (by exact HXW.out.size) ?_
      intro A7 c7 w7 hown7 hg7 hloc7
      rw [← HGLN.out] at hown7 hloc7
      have HO7 := hid hown7
      have HG7 := hid hg7
      have HL7 := hid hloc7
      have HN7 := hid (fun (b : Nat) (h1 : b < V.heap.size) (h2 : (Value.slice hA hn' hc').ownBlock ≠ some b) => hg7.block b (by simp; omega) (fun e => h2 e.symm))
      have HE7 := hid (HN7.out og (Nat.lt_of_lt_of_le HOG.out.2 (HE0.out.trans HXC.out).size) (fun e => HSTC.out.ne og e rfl))
      have HB7 := hid (HN7.out wr.heap.size HBC.out (fun e => by have := (HSTT.out.last.block _ e).2; omega))
      clear hown7 hg7 hloc7
      rw [← HGLN.out]
      refine rgK hK ⟨(World.cell?_of_block HE7.out).trans (((Ext.refl V).drew.alloc _).cell oc), (World.cell?_of_block HB7.out).trans (((Ext.refl V).drew.alloc _).cell q0), (World.cell?_of_block HB7.out).trans (((Ext.refl V).drew.alloc _).cell q1), (World.cell?_of_block HB7.out).trans (((Ext.refl V).drew.alloc _).cell q2), (World.cell?_of_block HB7.out).trans (((Ext.refl V).drew.alloc _).cell q3), (World.cell?_of_block HB7.out).trans (((Ext.refl V).drew.alloc _).cell q4), (World.cell?_of_block HB7.out).trans (((Ext.refl V).drew.alloc _).cell q5)⟩ (fun hSg58q2 => ?_)
      clear hK K
      refine rgT 12 ?_
      refine wpAnyH_done (by kernel_rfl) ?_ _
      change wpList _ _ _ _ _ _
      have HAL := hid ((Ext.refl V).drew.alloc (.cells #[.int .i64 0, .int .i64 0, .int .i64 0, .int .i64 0, .slice none 0 0, .slice none 0 0] 48))
      have HX7 := hid ((HXW.out.trans HAL.out).grown HG7.out (fun q hq => (HSTC.out.last.block q hq).1))
      have b0 := (World.cell?_of_block HB7.out).trans (HAL.out.cell q0)
      have b1 := (World.cell?_of_block HB7.out).trans (HAL.out.cell q1)
      have b2 := (World.cell?_of_block HB7.out).trans (HAL.out.cell q2)
      have b3 := (World.cell?_of_block HB7.out).trans (HAL.out.cell q3)
      have b4 := (World.cell?_of_block HB7.out).trans (HAL.out.cell q4)
      have b5 := (World.cell?_of_block HB7.out).trans (HAL.out.cell q5)
      have bo := (World.cell?_of_block HE7.out).trans (HAL.out.cell oc)
      have bf := (World.frozen?_of_block (a := ⟨og, m', none⟩) HE7.out).trans ((HAL.out.frozen (p := ⟨og, m', none⟩) (World.block_lt_of_cell? _ _ oc)).trans HOFC.out)
      have hgrow := (HSTC.out.ext HAL.out).grow (h' := ⟨A7, hn' + 1, c7⟩) HG7.out HO7.out (by rcases HL7.out with h | h; exact .inl h; exact .inr fun b hb => by have := h b hb; simp; exact this) (og := og) (n := m) (c := co) rfl
      rw [HM'.out] at hgrow
      have HG8' := hid hgrow
      have HX8' := hid (HX7.out.setCell (p := ⟨og, m', none⟩) (by exact HOG.out.1) (.slice A7 (hn' + 1) c7))
      have hne1 : wr.heap.size ≠ og := HNE.out
      have hne2 : og ≠ wr.heap.size := fun e => HNE.out e.symm
      clear hgrow oc q0 q1 q2 q3 q4 q5
      obtain ⟨W8, hW8⟩ : ∃ W8, w7.setCell ⟨og, m', none⟩ (.slice A7 (hn' + 1) c7) = W8 := ⟨_, rfl⟩
      have hg8 := HG8'.out
      have hx8 := HX8'.out
      rw [show (SlH.val ⟨A7, hn' + 1, c7⟩) = .slice A7 (hn' + 1) c7 from rfl, hW8] at hg8
      rw [hW8] at hx8
      have hlast8 : OwnS (fdR (tyR d)) W8 w2.heap.size 48 T (.slice A7 (hn' + 1) c7) (g0 ++ [(0, Ty.mk 0 0 0 [] [])]) := hg8.last
      obtain ⟨qb, hqb, hqb1, hqb2⟩ := hlast8.at0 (by omega)
      subst hqb
      obtain ⟨zs, hzr, hzc⟩ := hlast8.cells (k := hn') (e := (0, Ty.mk 0 0 0 [] [])) (by rw [HGLN.out]; simp)
      rw [show (fdR (tyR d)).size = 6 from fdR_size d] at hzc
      obtain ⟨zx, rfl⟩ := raw_of_fd hzr
      obtain ⟨z0, y0⟩ := hzc 0 _ rfl
      obtain ⟨z1, y1⟩ := hzc 1 _ rfl
      obtain ⟨z2, y2⟩ := hzc 2 _ rfl
      obtain ⟨z3, y3⟩ := hzc 3 _ rfl
      obtain ⟨z4, y4⟩ := hzc 4 _ rfl
      obtain ⟨z5, y5⟩ := hzc 5 _ rfl
      rw [Nat.add_zero] at z0 y0
      have hput := GrpSt.putLast (f := x) hg8 (q := qb) (n := hn' + 1) (c := c7) rfl ((fdR (tyR d)).ext hx8 HREL.out)
      rw [← HGLN.out] at hput
      have HG8 := hid hput
      have HX8 := hid (setRow_ext [.int .i64 x.1, .int .i64 x.2.kind, .int .i64 x.2.size, .int .i64 x.2.count, .slice A5 n5 c5, .slice B5 m5 e5] qb (hn' * 6) hx8 (by exact hqb1))
      have HW8 := hid hW8
      have hqne : qb ≠ wr.heap.size := by
       intro e
       rcases HL7.out with h | h
       ·have := (HSTT.out.last.block wr.heap.size (by rw [← e]; exact h.symm)).2
        omega
       ·have h2 := h qb rfl
        have : wr.heap.size < V.heap.size := HBC.out
        have h3 : V.drew.heap.size + 1 ≤ qb := h2
        have h4 : V.drew.heap.size = V.heap.size := rfl
        omega
      have hqne' : wr.heap.size ≠ qb := fun e => hqne e.symm
      have b0 : W8.cell? ⟨wr.heap.size, 0, none⟩ = some (.int .i64 x.1) := by rw [← hW8, World.cell?_of_block (a := ⟨wr.heap.size, 0, none⟩) (Below.heap_setCell _ _ _ _ hne1)]; exact b0
      have b1 : W8.cell? ⟨wr.heap.size, 1, none⟩ = some (.int .i64 x.2.kind) := by rw [← hW8, World.cell?_of_block (a := ⟨wr.heap.size, 1, none⟩) (Below.heap_setCell _ _ _ _ hne1)]; exact b1
      have b2 : W8.cell? ⟨wr.heap.size, 2, none⟩ = some (.int .i64 x.2.size) := by rw [← hW8, World.cell?_of_block (a := ⟨wr.heap.size, 2, none⟩) (Below.heap_setCell _ _ _ _ hne1)]; exact b2
      have b3 : W8.cell? ⟨wr.heap.size, 3, none⟩ = some (.int .i64 x.2.count) := by rw [← hW8, World.cell?_of_block (a := ⟨wr.heap.size, 3, none⟩) (Below.heap_setCell _ _ _ _ hne1)]; exact b3
      have b4 : W8.cell? ⟨wr.heap.size, 4, none⟩ = some (.slice A5 n5 c5) := by rw [← hW8, World.cell?_of_block (a := ⟨wr.heap.size, 4, none⟩) (Below.heap_setCell _ _ _ _ hne1)]; exact b4
      have b5 : W8.cell? ⟨wr.heap.size, 5, none⟩ = some (.slice B5 m5 e5) := by rw [← hW8, World.cell?_of_block (a := ⟨wr.heap.size, 5, none⟩) (Below.heap_setCell _ _ _ _ hne1)]; exact b5
      have k1 : (0 : Int) ≤ (hn' : Int) := by omega
      have k2 : (hn' : Int) < ((hn' + 1 : Nat) : Int) := by omega
      have k3 : (hn' : Int) < (hn' : Int) + 1 := by omega
      clear hW8 hg8 hx8 hzr hzc hput hqb1 hqb2 hlast8
      go_upto_region 12 with fail
      rw [HW8.out]
      clear bo bf
      go_wp2_with fail
      clear b0 b1 b2 b3 b4 b5
      refine (HE.out _ HX8.out).mono ?_
      rintro e w9 ⟨rfl, hx9⟩
      have HX9 := hid hx9
      have HNEW : Hid (GrpI d w2.heap.size T w9 (.slice (some ⟨og, 0, none⟩) m co) (gs ++ [g0 ++ [x]])) := hid (.inr ⟨hs, gs, _, g0 ++ [x], rfl, HG8.out.ext hx9⟩)
      have HXN := hid (HX8.out.trans hx9)
      clear hx9
      go_wp2
      all_goals
       first
        | go_roundw
        | refine ⟨?rel, ?measure⟩
       case rel => exact ⟨k + 1, m, _, some ⟨og, 0, none⟩, co, _, by omega, by omega, by omega, by omega, by go_num, rfl, rfl, hid (by first | (rw [HFN.out]; done) | (rw [HFN.out]; congr 1; done) | (rw [HFN.out]; congr 1; omega)), HGN, HNEW, HXN⟩
       case measure => simp [intOf]; omega
     ·go_wp2_with fail
      refine wp_region_split 12 (by kernel_rfl) rfl rfl (by kernel_rfl) (fun w' => w'.cell? ⟨og, m', none⟩ = some (.slice hA hn' hc') ∧ w'.cell? ⟨wr.heap.size, 0, none⟩ = some (.int .i64 x.1) ∧ w'.cell? ⟨wr.heap.size, 1, none⟩ = some (.int .i64 x.2.kind) ∧ w'.cell? ⟨wr.heap.size, 2, none⟩ = some (.int .i64 x.2.size) ∧ w'.cell? ⟨wr.heap.size, 3, none⟩ = some (.int .i64 x.2.count) ∧ w'.cell? ⟨wr.heap.size, 4, none⟩ = some (.slice A5 n5 c5) ∧ w'.cell? ⟨wr.heap.size, 5, none⟩ = some (.slice B5 m5 e5)) ⟨oc, q0, q1, q2, q3, q4, q5⟩ (fun hSg59q0 => ?_)
      refine rgT6 0 1 2 3 4 5 ?_
      refine rgT3 6 7 8 ?_
      refine rgC 9 (fun K hK => ?_)
      go_simp
      refine rgK hK ⟨((Ext.refl V).drew.alloc _).cell oc, ((Ext.refl V).drew.alloc _).cell q0, ((Ext.refl V).drew.alloc _).cell q1, ((Ext.refl V).drew.alloc _).cell q2, ((Ext.refl V).drew.alloc _).cell q3, ((Ext.refl V).drew.alloc _).cell q4, ((Ext.refl V).drew.alloc _).cell q5⟩ (fun hSg59q1 => ?_)
      clear hK K
      refine rgC 10 (fun K hK => ?_)
      refine step_app1l rfl (.tmp 52) (.tmp 54) 23 rfl w2.heap.size 48 j0 _ 6 80 Tryz.underlying23 HJ.out HJ0.out HJ1.out HJ2.out rfl (fdR (tyR d)) (fdR_size d) (.slice hA hn' hc') g0 rfl HSTC.out.last.dr x rfl ((fdR (tyR d)).mono (fun b hb _ => ⟨hb, fun e => by have hb' : b < w.heap.size := HLIM.out b hb; have := (HSTC.out.last.block b e.symm).1; have := HX2.out.size; omega⟩) ((fdR (tyR d)).ext HXW.out.drew HREL.out)) (by have := HG0K.out; omega) (by have := HG0K.out; omega) (by exact HXW.out.size) ?_
      intro A7 c7 w7 hown7 hg7 hloc7
      rw [← HGLN.out] at hown7 hloc7
      have HO7 := hid hown7
      have HG7 := hid hg7
      have HL7 := hid hloc7
      have HN7 := hid (fun (b : Nat) (h1 : b < V.heap.size) (h2 : (Value.slice hA hn' hc').ownBlock ≠ some b) => hg7.block b (by simp; omega) (fun e => h2 e.symm))
      have HE7 := hid (HN7.out og (Nat.lt_of_lt_of_le HOG.out.2 (HE0.out.trans HXC.out).size) (fun e => HSTC.out.ne og e rfl))
      have HB7 := hid (HN7.out wr.heap.size HBC.out (fun e => by have := (HSTT.out.last.block _ e).2; omega))
      clear hown7 hg7 hloc7
      rw [← HGLN.out]
      refine rgK hK ⟨(World.cell?_of_block HE7.out).trans (((Ext.refl V).drew.alloc _).cell oc), (World.cell?_of_block HB7.out).trans (((Ext.refl V).drew.alloc _).cell q0), (World.cell?_of_block HB7.out).trans (((Ext.refl V).drew.alloc _).cell q1), (World.cell?_of_block HB7.out).trans (((Ext.refl V).drew.alloc _).cell q2), (World.cell?_of_block HB7.out).trans (((Ext.refl V).drew.alloc _).cell q3), (World.cell?_of_block HB7.out).trans (((Ext.refl V).drew.alloc _).cell q4), (World.cell?_of_block HB7.out).trans (((Ext.refl V).drew.alloc _).cell q5)⟩ (fun hSg59q2 => ?_)
      clear hK K
      refine rgT 11 ?_
      refine wpAnyH_done (by kernel_rfl) ?_ _
      change wpList _ _ _ _ _ _
      have HAL := hid ((Ext.refl V).drew.alloc (.cells #[.int .i64 x.1, .int .i64 x.2.kind, .int .i64 x.2.size, .int .i64 x.2.count, .slice A5 n5 c5, .slice B5 m5 e5] 48))
      have HX7 := hid ((HXW.out.trans HAL.out).grown HG7.out (fun q hq => (HSTC.out.last.block q hq).1))
      have b0 := (World.cell?_of_block HB7.out).trans (HAL.out.cell q0)
      have b1 := (World.cell?_of_block HB7.out).trans (HAL.out.cell q1)
      have b2 := (World.cell?_of_block HB7.out).trans (HAL.out.cell q2)
      have b3 := (World.cell?_of_block HB7.out).trans (HAL.out.cell q3)
      have b4 := (World.cell?_of_block HB7.out).trans (HAL.out.cell q4)
      have b5 := (World.cell?_of_block HB7.out).trans (HAL.out.cell q5)
      have bo := (World.cell?_of_block HE7.out).trans (HAL.out.cell oc)
      have bf := (World.frozen?_of_block (a := ⟨og, m', none⟩) HE7.out).trans ((HAL.out.frozen (p := ⟨og, m', none⟩) (World.block_lt_of_cell? _ _ oc)).trans HOFC.out)
      have hgrow := (HSTC.out.ext HAL.out).grow (h' := ⟨A7, hn' + 1, c7⟩) HG7.out HO7.out (by rcases HL7.out with h | h; exact .inl h; exact .inr fun b hb => by have := h b hb; simp; exact this) (og := og) (n := m) (c := co) rfl
      rw [HM'.out] at hgrow
      have HG8' := hid hgrow
      have HX8' := hid (HX7.out.setCell (p := ⟨og, m', none⟩) (by exact HOG.out.1) (.slice A7 (hn' + 1) c7))
      have hne1 : wr.heap.size ≠ og := HNE.out
      have hne2 : og ≠ wr.heap.size := fun e => HNE.out e.symm
      clear hgrow oc q0 q1 q2 q3 q4 q5
      go_wp2_with fail
      have HX8 := HX8'
      have HG8 := HG8'
      clear b0 b1 b2 b3 b4 b5 bo bf
      refine (HE.out _ HX8.out).mono ?_
      rintro e w9 ⟨rfl, hx9⟩
      have HX9 := hid hx9
      have HNEW : Hid (GrpI d w2.heap.size T w9 (.slice (some ⟨og, 0, none⟩) m co) (gs ++ [g0 ++ [x]])) := hid (.inr ⟨hs, gs, _, g0 ++ [x], rfl, HG8.out.ext hx9⟩)
      have HXN := hid (HX8.out.trans hx9)
      clear hx9
      go_wp2
      all_goals
       first
        | go_roundw
        | refine ⟨?rel, ?measure⟩
       case rel => exact ⟨k + 1, m, _, some ⟨og, 0, none⟩, co, _, by omega, by omega, by omega, by omega, by go_num, rfl, rfl, hid (by first | (rw [HFN.out]; done) | (rw [HFN.out]; congr 1; done) | (rw [HFN.out]; congr 1; omega)), HGN, HNEW, HXN⟩
       case measure => simp [intOf]; omega
   ·have HNC := hid hc
    obtain ⟨W1, hW1⟩ : ∃ W1, W0.alloc (.cells #[.int .i64 x.1, .int .i64 x.2.kind, .int .i64 x.2.size, .int .i64 x.2.count, .slice A5 n5 c5, .slice B5 m5 e5] 48) = W1 := ⟨_, rfl⟩
    have hE1 : Ext W0 W1 := by rw [← hW1]; exact (Ext.refl _).alloc _
    have HE1 := hid hE1
    have hs1 : W1.heap.size = W0.heap.size + 1 := by rw [← hW1]; simp
    have HS1 := hid hs1
    have hlit : OwnS (fdR (tyR d)) W1 w2.heap.size 48 T (.slice (some ⟨W0.heap.size, 0, none⟩) 1 1) [x] := by
     rw [← hW1]
     have hle : w2.heap.size ≤ W0.heap.size := (HX.out.trans HE0.out).size
     exact own_lit1 (cs := [.int .i64 x.1, .int .i64 x.2.kind, .int .i64 x.2.size, .int .i64 x.2.count, .slice A5 n5 c5, .slice B5 m5 e5]) hle ((fdR (tyR d)).mono (fun b hb _ => ⟨hb, by have hb' : b < w.heap.size := HLIM.out b hb; have := HX2.out.size; omega⟩) ((fdR (tyR d)).ext (HX.out.trans HE0.out) HREL.out))
    have HLIT := hid hlit
    obtain ⟨HSL, hown, hhl⟩ : ∃ HSL : List SlH, OwnS slhR wr w2.heap.size 23 All (.slice Ao m co) HSL ∧ HSL.length = m := by
     rcases HST.out with ⟨h1, h2, -, -⟩ | ⟨hs, gs, h, g, h1, h2⟩
     ·injection h2 with h2 h3 h4
      subst h2 h3 h4
      exact ⟨[], OwnS.nil, rfl⟩
     ·exact ⟨hs ++ [h], h2.out, by have := h2.out.len; omega⟩
    have HOB := hid (fun (q : Nat) hq => hown.block q hq)
    have HEQ : Hid (∀ hs gs h g, G = gs ++ [g] → GrpSt d w2.heap.size T 23 48 wr (.slice Ao m co) hs gs h g → HSL = hs ++ [h]) := hid (fun hs gs h g _ h2 => slh_uniq hown h2.out)
    have HOWN := hid (hown.ext (HE0.out.trans HE1.out))
    have HHL := hid hhl
    have HEX := hid (HX.out.trans (HE0.out.trans HE1.out))
    have a0 := hE1.cell q0
    have a1 := hE1.cell q1
    have a2 := hE1.cell q2
    have a3 := hE1.cell q3
    have a4 := hE1.cell q4
    have a5 := hE1.cell q5
    have HBX : Hid (wr.heap.size < W0.heap.size) := hid (World.block_lt_of_cell? _ _ q0)
    clear hlit hown hhl hE1 hs1
    by_cases h0 : 0 < m
    ·have d0 : decide ((m : Int) > 0) = true := decide_eq_true (by omega)
     have d1 : decide (x.1 < last) = false := decide_eq_false (fun h => hc ⟨h0, h⟩)
     have hnl : ¬ x.1 < last := fun h => hc ⟨h0, h⟩
     clear hc
     go_wp2_with (first
      | (at_builtin; refine wpList_app1l rfl (.tmp 57) (.tmp 60) 69 rfl w2.heap.size 23 i0 _ 1 24 Tryz.underlying69 HI.out HI0.out HI1.out HI2.out rfl slhR rfl (.slice Ao m co) HSL rfl HOWN.out W1.heap.size rfl ⟨some ⟨W0.heap.size, 0, none⟩, 1, 1⟩ rfl rfl (by have := HHL.out; omega) (by have := HHL.out; omega) (by exact HEX.out.size) ?_; intro A6 c6 w6 hown6 hg6 hloc6; rw [HHL.out] at hown6 hloc6; have HO6 := hid hown6; have HG6 := hid hg6; have HLC6 := hid hloc6;
          have HX6 := hid ((HEX.out.alloc _).grown hg6 (fun q hq => (HOB.out q hq).1)); have HB6 := hid (hg6.block wr.heap.size (by have := HBX.out; have := HS1.out; simp; omega) (fun e => by have := (HOB.out _ e.symm).2; omega));
          have b0 := (World.cell?_of_block HB6.out).trans (((Ext.refl W1).alloc _).cell a0); have b1 := (World.cell?_of_block HB6.out).trans (((Ext.refl W1).alloc _).cell a1); have b2 := (World.cell?_of_block HB6.out).trans (((Ext.refl W1).alloc _).cell a2); have b3 := (World.cell?_of_block HB6.out).trans (((Ext.refl W1).alloc _).cell a3); have b4 := (World.cell?_of_block HB6.out).trans (((Ext.refl W1).alloc _).cell a4); have b5 := (World.cell?_of_block HB6.out).trans (((Ext.refl W1).alloc _).cell a5);
          clear hown6 hg6 hloc6 p0 p1 p2 p3 p4 p5 q0 q1 q2 q3 q4 q5 a0 a1 a2 a3 a4 a5; rw [HHL.out])
      | fail)
     clear hW0 hW1 b0 b1 b2 b3 b4 b5
     refine (HE.out w6 HX6.out).mono ?_
     rintro e w7 ⟨rfl, hx7⟩
     have HX7 := hid hx7
     clear hx7
     have hnew : GrpI d w2.heap.size T w7 (.slice A6 (m + 1) c6) (G ++ [[x]]) := by
      refine GrpI.ext (w := w6) ?_ HX7.out
      have hfr : ∀ b, (SlH.val ⟨some ⟨W0.heap.size, 0, none⟩, 1, 1⟩).ownBlock = some b → wr.heap.size ≤ b := fun b hb => by
       have : W0.heap.size = b := by simpa [SlH.val, Value.ownBlock] using hb
       have := HBX.out
       omega
      have hhov : (Value.slice A6 (m + 1) c6).ownBlock = (Value.slice Ao m co).ownBlock ∨ ∀ b, (Value.slice A6 (m + 1) c6).ownBlock = some b → (W1.alloc (.cells [(SlH.val ⟨some ⟨W0.heap.size, 0, none⟩, 1, 1⟩)].toArray 23)).heap.size ≤ b := by
       cases hb : (Value.slice A6 (m + 1) c6).ownBlock with
       | none => exact .inr fun b h => by cases h
       | some b =>
        rcases HLC6.out b hb with h | h
        ·exact .inl h.symm
        ·exact .inr fun b' h' => by injection h' with h'; subst h'; first | (simp; done) | (simp; omega)
      rcases HST.out with ⟨h1, h2, h3, h4⟩ | ⟨hs, gs, h, g, h1, h2⟩
      ·have hHSL : HSL = [] := List.length_eq_zero_iff.1 (by rw [HHL.out, ← HGL.out, h1]; rfl)
       refine .inr ⟨[], [], ⟨some ⟨W0.heap.size, 0, none⟩, 1, 1⟩, [x], by rw [h1], ?_⟩
       have hnil : (Value.slice Ao m co).ownBlock = none := by rw [h2]; rfl
       have hg := HG6.out
       rw [hnil] at hg
       have ho := HO6.out
       rw [hHSL] at ho
       refine GrpSt.first (W1 := W1.alloc (.cells [(SlH.val ⟨some ⟨W0.heap.size, 0, none⟩, 1, 1⟩)].toArray 23)) h3 (by have := HEX.out.size; simp; omega) (HLIT.out.ext ((Ext.refl W1).alloc _)) hg ho (fun b hb => ?_)
       rcases hhov with h | h
       ·rw [h, hnil] at hb; cases hb
       ·exact h b hb
      ·have hHSL : OwnS slhR w6 w2.heap.size 23 All (.slice A6 (m + 1) c6) (hs ++ [h] ++ [⟨some ⟨W0.heap.size, 0, none⟩, 1, 1⟩]) := by
        have e : HSL = hs ++ [h] := HEQ.out hs gs h g h1 h2
        rw [← e]
        exact HO6.out
       refine .inr ⟨hs ++ [h], gs ++ [g], ⟨some ⟨W0.heap.size, 0, none⟩, 1, 1⟩, [x], by rw [h1], ?_⟩
       exact h2.new (W1 := W1.alloc (.cells [(SlH.val ⟨some ⟨W0.heap.size, 0, none⟩, 1, 1⟩)].toArray 23)) ((HE0.out.trans HE1.out).alloc _) (HLIT.out.ext ((Ext.refl W1).alloc _)) hfr HG6.out hHSL hhov
     have HNEW := hid hnew
     have HFN : Hid ((L.take (k + 1)).foldl grpS ([], 0) = (G ++ [[x]], max last en)) := hid (by
      rw [take_snoc' HXX.out, List.foldl_append, HF.out]
      have hno : ¬ (G ≠ [] ∧ x.1 < last) := fun h => HNC.out ⟨by have := List.length_pos_iff.2 h.1; rw [HGL.out] at this; exact this, h.2⟩
      simp only [List.foldl_cons, List.foldl_nil, grpS, HEN.out]
      rw [if_neg hno])
     have HXN := hid (HX6.out.trans HX7.out)
     have HGN : Hid ((G ++ [[x]]).length = m + 1) := hid (by rw [List.length_append, HGL.out]; rfl)
     clear hnew
     go_wp2
     all_goals
      first
       | go_roundw
       | refine ⟨?rel, ?measure⟩
      case rel => exact ⟨k + 1, m + 1, _, A6, c6, _, by omega, by omega, by omega, by omega, by go_num, rfl, rfl, hid (by first | (rw [HFN.out]; done) | (rw [HFN.out]; congr 1; done) | (rw [HFN.out]; congr 1; omega)), HGN, HNEW, HXN⟩
      case measure => simp [intOf]; omega
    ·have d0 : decide ((m : Int) > 0) = false := decide_eq_false (by omega)
     have hm0 : ¬ (m : Int) > 0 := by omega
     clear hc
     go_wp2_with (first
      | (at_builtin; refine wpList_app1l rfl (.tmp 57) (.tmp 60) 69 rfl w2.heap.size 23 i0 _ 1 24 Tryz.underlying69 HI.out HI0.out HI1.out HI2.out rfl slhR rfl (.slice Ao m co) HSL rfl HOWN.out W1.heap.size rfl ⟨some ⟨W0.heap.size, 0, none⟩, 1, 1⟩ rfl rfl (by have := HHL.out; omega) (by have := HHL.out; omega) (by exact HEX.out.size) ?_; intro A6 c6 w6 hown6 hg6 hloc6; rw [HHL.out] at hown6 hloc6; have HO6 := hid hown6; have HG6 := hid hg6; have HLC6 := hid hloc6;
          have HX6 := hid ((HEX.out.alloc _).grown hg6 (fun q hq => (HOB.out q hq).1)); have HB6 := hid (hg6.block wr.heap.size (by have := HBX.out; have := HS1.out; simp; omega) (fun e => by have := (HOB.out _ e.symm).2; omega));
          have b0 := (World.cell?_of_block HB6.out).trans (((Ext.refl W1).alloc _).cell a0); have b1 := (World.cell?_of_block HB6.out).trans (((Ext.refl W1).alloc _).cell a1); have b2 := (World.cell?_of_block HB6.out).trans (((Ext.refl W1).alloc _).cell a2); have b3 := (World.cell?_of_block HB6.out).trans (((Ext.refl W1).alloc _).cell a3); have b4 := (World.cell?_of_block HB6.out).trans (((Ext.refl W1).alloc _).cell a4); have b5 := (World.cell?_of_block HB6.out).trans (((Ext.refl W1).alloc _).cell a5);
          clear hown6 hg6 hloc6 p0 p1 p2 p3 p4 p5 q0 q1 q2 q3 q4 q5 a0 a1 a2 a3 a4 a5; rw [HHL.out])
      | fail)
     clear hW0 hW1 b0 b1 b2 b3 b4 b5
     refine (HE.out w6 HX6.out).mono ?_
     rintro e w7 ⟨rfl, hx7⟩
     have HX7 := hid hx7
     clear hx7
     have hnew : GrpI d w2.heap.size T w7 (.slice A6 (m + 1) c6) (G ++ [[x]]) := by
      refine GrpI.ext (w := w6) ?_ HX7.out
      have hfr : ∀ b, (SlH.val ⟨some ⟨W0.heap.size, 0, none⟩, 1, 1⟩).ownBlock = some b → wr.heap.size ≤ b := fun b hb => by
       have : W0.heap.size = b := by simpa [SlH.val, Value.ownBlock] using hb
       have := HBX.out
       omega
      have hhov : (Value.slice A6 (m + 1) c6).ownBlock = (Value.slice Ao m co).ownBlock ∨ ∀ b, (Value.slice A6 (m + 1) c6).ownBlock = some b → (W1.alloc (.cells [(SlH.val ⟨some ⟨W0.heap.size, 0, none⟩, 1, 1⟩)].toArray 23)).heap.size ≤ b := by
       cases hb : (Value.slice A6 (m + 1) c6).ownBlock with
       | none => exact .inr fun b h => by cases h
       | some b =>
        rcases HLC6.out b hb with h | h
        ·exact .inl h.symm
        ·exact .inr fun b' h' => by injection h' with h'; subst h'; first | (simp; done) | (simp; omega)
      rcases HST.out with ⟨h1, h2, h3, h4⟩ | ⟨hs, gs, h, g, h1, h2⟩
      ·have hHSL : HSL = [] := List.length_eq_zero_iff.1 (by rw [HHL.out, ← HGL.out, h1]; rfl)
       refine .inr ⟨[], [], ⟨some ⟨W0.heap.size, 0, none⟩, 1, 1⟩, [x], by rw [h1], ?_⟩
       have hnil : (Value.slice Ao m co).ownBlock = none := by rw [h2]; rfl
       have hg := HG6.out
       rw [hnil] at hg
       have ho := HO6.out
       rw [hHSL] at ho
       refine GrpSt.first (W1 := W1.alloc (.cells [(SlH.val ⟨some ⟨W0.heap.size, 0, none⟩, 1, 1⟩)].toArray 23)) h3 (by have := HEX.out.size; simp; omega) (HLIT.out.ext ((Ext.refl W1).alloc _)) hg ho (fun b hb => ?_)
       rcases hhov with h | h
       ·rw [h, hnil] at hb; cases hb
       ·exact h b hb
      ·have hHSL : OwnS slhR w6 w2.heap.size 23 All (.slice A6 (m + 1) c6) (hs ++ [h] ++ [⟨some ⟨W0.heap.size, 0, none⟩, 1, 1⟩]) := by
        have e : HSL = hs ++ [h] := HEQ.out hs gs h g h1 h2
        rw [← e]
        exact HO6.out
       refine .inr ⟨hs ++ [h], gs ++ [g], ⟨some ⟨W0.heap.size, 0, none⟩, 1, 1⟩, [x], by rw [h1], ?_⟩
       exact h2.new (W1 := W1.alloc (.cells [(SlH.val ⟨some ⟨W0.heap.size, 0, none⟩, 1, 1⟩)].toArray 23)) ((HE0.out.trans HE1.out).alloc _) (HLIT.out.ext ((Ext.refl W1).alloc _)) hfr HG6.out hHSL hhov
     have HNEW := hid hnew
     have HFN : Hid ((L.take (k + 1)).foldl grpS ([], 0) = (G ++ [[x]], max last en)) := hid (by
      rw [take_snoc' HXX.out, List.foldl_append, HF.out]
      have hno : ¬ (G ≠ [] ∧ x.1 < last) := fun h => HNC.out ⟨by have := List.length_pos_iff.2 h.1; rw [HGL.out] at this; exact this, h.2⟩
      simp only [List.foldl_cons, List.foldl_nil, grpS, HEN.out]
      rw [if_neg hno])
     have HXN := hid (HX6.out.trans HX7.out)
     have HGN : Hid ((G ++ [[x]]).length = m + 1) := hid (by rw [List.length_append, HGL.out]; rfl)
     clear hnew
     go_wp2
     all_goals
      first
       | go_roundw
       | refine ⟨?rel, ?measure⟩
      case rel => exact ⟨k + 1, m + 1, _, A6, c6, _, by omega, by omega, by omega, by omega, by go_num, rfl, rfl, hid (by first | (rw [HFN.out]; done) | (rw [HFN.out]; congr 1; done) | (rw [HFN.out]; congr 1; omega)), HGN, HNEW, HXN⟩
      case measure => simp [intOf]; omega
  ·obtain rfl : k = n := by omega
   have hfin : G = G0 := by
    have h := HF.out
    rw [List.take_of_length_le (by have := HLL.out; omega)] at h
    rw [← HG0.out, h]
   have HFIN := hid hfin
   clear hfin
   go_wp2
   go_ret
   have hlen : m = G0.length := by rw [← HFIN.out, HGL.out]
   refine ⟨Ao, co, by rw [HG0'.out, ← hlen]; rfl, ?_, HX2.out.trans HX.out⟩
   ·rw [HG0'.out, ← hlen]
    rcases HST.out with ⟨h1, h2, -, -⟩ | ⟨hs, gs, h, g, h1, h2⟩
    ·injection h2 with h2 h3 h4
     subst h2 h3 h4
     rw [← HFIN.out, h1]
     exact Sl.nil
    ·rw [← HFIN.out, h1]
     exact h2.sl.mono fun b hb _ => by
      have := HX2.out.size
      rcases hb with hb | hb
      ·exact .inl hb
      ·exact .inr (by omega)
end Go.Proofs.YtacmjhcfjhpkeaaGreatDoor
