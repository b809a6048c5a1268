/- In the type that Layout returns FieldAt finds every access. No program in sight. -/
import Derived.Test.YtacmjhcfjhpkeaaGreatDoorPlbm
namespace Go.Deco
open Go Go.RowKit
set_option linter.unusedSimpArgs false
set_option linter.unusedVariables false

theorem fa_leaf {t : Ty} (s : Int) (hs : s = 1 ∨ s = 2 ∨ s = 4) (h : t = Ty.int s ∨ t = Ty.uint s) : faT t 0 s = some t := by
 have hz : szT t = s := by rcases h with rfl | rfl; exact sz_int s hs; exact sz_uint s hs
 cases t with
 | mk k z c e f =>
  have hk : k = 1 ∨ k = 2 := by
   rcases h with h | h
   ·unfold Ty.int at h; injection h with h1; omega
   ·unfold Ty.uint at h; injection h with h1; omega
  rw [faT, if_neg (by omega), if_pos (by omega), if_pos ⟨rfl, hz.symm⟩]
theorem fa_arr (x : Ty) (n off wd : Int) : faT (Ty.arr x n) off wd = if off < 0 ∨ szT (Ty.arr x n) ≤ off then none else faT x (off % szT x) wd := by
 show faT (.mk 4 0 n [x] []) off wd = _
 rw [faT, if_neg (by omega), if_neg (by omega), if_pos rfl]
 rfl
theorem fa_bytes {m off : Int} (h1 : 0 ≤ off) (h2 : off < m) (h3 : m ≤ 65536) : faT (Ty.arr (Ty.uint 1) m) off 1 = some (Ty.uint 1) := by
 have hz : szT (Ty.arr (Ty.uint 1) m) = m := by rw [sz_arr, sz_uint 1 (.inl rfl)]; omega
 rw [fa_arr, hz, if_neg (by omega), sz_uint 1 (.inl rfl), Int.emod_one]
 exact fa_leaf 1 (.inl rfl) (.inr rfl)
theorem faF_chain : ∀ {F : List Fd} {n : Int}, ChainF n F → ∀ f ∈ F, ∀ off wd x, f.1 ≤ off → off < endF f → faT f.2 (off - f.1) wd = some x → faF F off wd = some x
 | (o, t) :: F, n, ⟨h1, h2, h3⟩, f, hf, off, wd, x, ha, hb, hx => by
  rw [faF]
  rcases List.mem_cons.1 hf with rfl | hf
  ·have hnone : ∀ {F : List Fd} {n : Int}, ChainF n F → off < n → faF F off wd = none := by
    intro F
    induction F with
    | nil => intro _ _ _; rfl
    | cons g F ih =>
     rintro n ⟨k1, k2, k3⟩ hn
     obtain ⟨o', t'⟩ := g
     have hlt := k2.lt
     simp only at k1 hlt
     rw [faF, ih k3 (by omega)]
     exact faT_neg t' (by omega)
   rw [hnone h3 hb]
   exact hx
  ·rw [faF_chain h3 f hf off wd x ha hb hx]
theorem rowFrom_at : ∀ {l : List Fd} {t : Ty} {n : Int}, rowFrom t n l = true → ∀ f ∈ l, ∃ k : Nat, k < l.length ∧ f.1 = n + k * sizeT t ∧ f.2 = t
 | g :: l, t, n, h, f, hf => by
  simp only [rowFrom, Bool.and_eq_true, decide_eq_true_eq, sameT_iff] at h
  obtain ⟨⟨h1, h2⟩, h3⟩ := h
  rcases List.mem_cons.1 hf with rfl | hf
  ·exact ⟨0, by simp, by simp [h1], h2⟩
  ·obtain ⟨k, hk, e, et⟩ := rowFrom_at h3 f hf
   refine ⟨k + 1, by simp; omega, ?_, et⟩
   rw [e]
   unfold endF
   rw [h1, h2, Int.natCast_succ, Int.add_mul]
   omega
/-- The access at a field of what was laid. -/
theorem laid_at {p : List Fd} (hp : ∀ x ∈ p, PartL x) {t : Ty} (h : arrangeF p = (t, 0)) {f : Fd} (hf : f ∈ fieldsF p) (off wd : Int) (x : Ty) (h1 : f.1 ≤ off) (h2 : off < endF f) (hw : wd = 1 ∨ wd = 2 ∨ wd = 4)
  (hx : faT f.2 (off - f.1) wd = some x) : fieldT t off wd = some x := by
 have hg := laid_good (arrange_laid hp h)
 have hc := fields_chain hp
 have hm := chain_mem hc
 have hfp := (hm f hf).2
 have h0 : 0 ≤ off := by have := hfp.1; omega
 unfold fieldT
 rw [if_pos ⟨by unfold goodT; rw [decide_eq_true_iff]; exact hg, hw⟩]
 change (if 64 < (fieldsF p).length then (Ty.unk, 6) else if rowF (fieldsF p) then (Ty.arr (headF (fieldsF p)).2 (fieldsF p).length, 0) else (Ty.str (fieldsF p), 0)) = (t, 0) at h
 obtain ⟨F, hF⟩ : ∃ F, fieldsF p = F := ⟨_, rfl⟩
 rw [hF] at h hc hf hm
 split at h
 ·cases h
 ·split at h
  ·rename_i h64 hr
   injection h with h _
   subst h
   rw [rowF, Bool.and_eq_true, decide_eq_true_eq] at hr
   have hne : F ≠ [] := fun e => by rw [e] at hr; simp at hr
   obtain ⟨k, hk, e, et⟩ := rowFrom_at hr.2 f hf
   have hl := (hm _ (headF_mem hne)).2.2.1
   have hpos := (leaf_good hl).2.2
   have hsz := leaf_size hl
   obtain ⟨s, hs⟩ : ∃ s, sizeT (headF F).2 = s := ⟨_, rfl⟩
   rw [hs] at hpos hsz e
   have hend : endF f = f.1 + s := by unfold endF; rw [et, hs]
   have hmod : off % s = off - f.1 := by
    rw [e]
    have e2 : off = (off - k * s) + k * s := by omega
    rw [e2, Int.add_mul_emod_self_right, Int.emod_eq_of_lt (by omega) (by omega)]
    omega
   have hbd : (k : Int) * s + s ≤ F.length * s := by
    have := Int.mul_le_mul_of_nonneg_right (show (k : Int) + 1 ≤ F.length by omega) (show 0 ≤ s by omega)
    rw [Int.add_mul] at this
    omega
   have h65 := hfp.2.2
   rw [fa_arr, sz_arr, ← hsz, if_neg (by omega), hmod, ← et]
   exact hx
  ·rename_i h64 hr
   injection h with h _
   subst h
   have e3 : faT (Ty.str F) off wd = if off < 0 then none else faF F off wd := by simp [Ty.str, faT]
   rw [e3, if_neg (by omega)]
   exact faF_chain hc f hf off wd x h1 h2 hx

/-! ### each part lies in one field -/
theorem flds_part : ∀ (k : Nat) (l : List Fd), l.length ≤ k → SrtF l → (∀ x ∈ l, PartL x) → ∀ x ∈ l, ∃ y ∈ (grpR k l).map fieldG, y.1.1 ≤ x.1 ∧ endF x ≤ endF y.1 ∧
  (y.2 = false → y.1 = x ∨ (y.1 = (x.1, Ty.int x.2.size) ∧ intK x.2 = true)) ∧ (y.2 = true → ∃ m, m ≤ 65536 ∧ y.1.2 = Ty.arr (Ty.uint 1) m)
 | k, [], _, _, _, x, hx => by cases hx
 | 0, f :: l, h, _, _, _, _ => by simp at h
 | k + 1, f :: l, h, hs, hp, x, hx => by
  have hpos : ∀ x ∈ f :: l, 0 < sizeT x.2 := fun x hx => (leaf_good (hp x hx).2.1).2.2
  have hl := grp1_len l (endF f)
  obtain ⟨hg1, hg2, hg3⟩ := group_field hs hp
  rw [grpR, List.map_cons]
  by_cases hlt : x.1 < grpE (endF f) l
  ·have hG := ((grp1_set hs hpos x).1).2 ⟨hx, hlt⟩
   have hfle : f.1 ≤ x.1 := by
    rcases List.mem_cons.1 hx with rfl | h
    ·exact Int.le_refl _
    ·exact (List.pairwise_cons.1 hs).1 x h
   have hend : endF x ≤ grpE (endF f) l := by
    rcases List.mem_cons.1 hG with rfl | h
    ·exact grpE_ge _ _
    ·exact (grp1_in _ _ x h).2
   refine ⟨_, List.mem_cons_self .., by rw [hg1]; exact hfle, by rw [hg2]; exact hend, ?_, ?_⟩
   ·unfold fieldG
    split
    ·rename_i h1
     intro _
     exact .inl (sameG_iff.1 h1 x hG).symm
    ·split
     ·rename_i h1 h2
      intro _
      have h3 := (sizedG_iff (List.cons_ne_nil _ _)).1 h2 x hG
      exact .inr ⟨Prod.ext h3.1.symm (by rw [h3.2.2]), h3.2.1⟩
     ·intro h; cases h
   ·intro hb
    have hpl := hg3.2.2
    unfold fieldG at hb hg3 ⊢
    split at hb
    ·cases hb
    ·split at hb
     ·cases hb
     ·rename_i h1 h2
      rw [if_neg h1, if_neg h2]
      refine ⟨_, ?_, rfl⟩
      have hbd : lastF (f :: (grp1 (endF f) l).1) ≤ 65536 := last_le _ 0 _ (by omega) fun y hy => (hp y (((grp1_set hs hpos y).1).1 hy).1).2.2
      have := (hp f (List.mem_cons_self ..)).1
      show lastF (f :: (grp1 (endF f) l).1) - f.1 ≤ 65536
      omega
  ·have hr := ((grp1_set hs hpos x).2).2 ⟨hx, by omega⟩
   obtain ⟨y, hy, h1⟩ := flds_part k _ (by simp at h; omega) (grp1_srt (endF f) (List.pairwise_cons.1 hs).2).2 (fun z hz => hp z (((grp1_set hs hpos z).2.1 hz).1)) x hr
   exact ⟨y, List.mem_cons_of_mem _ hy, h1⟩
def pairsF (p : List Fd) : List (Fd × Bool) := (groupsF p).map fieldG
theorem pairs_fst (p : List Fd) : (pairsF p).map Prod.fst = fieldsF p := by simp [pairsF, fieldsF, List.map_map, Function.comp_def]
theorem part_field {p : List Fd} (hp : ∀ x ∈ p, PartL x) : ∀ x ∈ p, ∃ y ∈ pairsF p, y.1.1 ≤ x.1 ∧ endF x ≤ endF y.1 ∧
  (y.2 = false → y.1 = x ∨ (y.1 = (x.1, Ty.int x.2.size) ∧ intK x.2 = true)) ∧ (y.2 = true → ∃ m, m ≤ 65536 ∧ y.1.2 = Ty.arr (Ty.uint 1) m) := by
 intro x hx
 unfold pairsF
 rw [groups_grpR fun x hx => (hp x hx).1]
 exact flds_part _ _ (by rw [stab_len]; exact Nat.le_refl _) (srtF_of (stab_ok weakF p).1) (fun y hy => hp y ((stabF_mem p y).1 hy)) x ((stabF_mem p x).2 hx)
/-- Only one field holds an offset. -/
theorem chain_count : ∀ {P : List (Fd × Bool)} {n : Int}, ChainF n (P.map Prod.fst) → ∀ y ∈ P, ∀ off, y.1.1 ≤ off → off < endF y.1 →
  (P.filter fun z => z.2 && decide (z.1.1 ≤ off) && decide (off < endF z.1)).length = if y.2 then 1 else 0
 | z :: P, n, h, y, hy, off, h1, h2 => by
  rw [List.map_cons] at h
  obtain ⟨k1, k2, k3⟩ := h
  have hlt := k2.lt
  have hm := chain_mem k3
  rcases List.mem_cons.1 hy with rfl | hy
  ·have hno : (P.filter fun z => z.2 && decide (z.1.1 ≤ off) && decide (off < endF z.1)) = [] := by
    rw [List.filter_eq_nil_iff]
    intro z hz
    have := (hm z.1 (List.mem_map_of_mem hz)).1
    simp
    intros
    omega
   rw [List.filter_cons, hno]
   cases y.2 <;> simp [h1, h2]
  ·have := (hm y.1 (List.mem_map_of_mem hy)).1
   rw [List.filter_cons, if_neg (by simp; omega)]
   exact chain_count k3 y hy off h1 h2
/-- What is known of an access of a list that Layout lays out. -/
theorem cover_law {l : List Acc} {t : Ty} (h : layoutA l = (t, 0)) {a : Acc} (ha : a ∈ l) :
  (hitsA l a = 1 ∧ ∀ n : Int, 0 ≤ n → n < a.width → fieldT t (a.off + n) 1 = some (Ty.uint 1)) ∨
   (hitsA l a = 0 ∧ ∃ x, fieldT t a.off a.width = some x ∧ x.size = a.width ∧ (x.kind = 1 ∨ (a.sgn = false ∧ x.kind = 2))) := by
 unfold layoutA at h
 by_cases h10 : 1024 < l.length
 ·rw [if_pos h10] at h; cases h
 ·rw [if_neg h10] at h
  by_cases hall : (l.all fun a => validA a && decide (a.base = ((l.head?.map Acc.base).getD 0))) = true
  ·rw [if_pos hall] at h
   rw [List.all_eq_true] at hall
   have hv : ∀ x ∈ l, validA x = true ∧ x.base = (l.head?.map Acc.base).getD 0 := fun x hx => by
    have := hall x hx
    rwa [Bool.and_eq_true, decide_eq_true_eq] at this
   have hf1 : l.filter validA = l := List.filter_eq_self.2 fun x hx => (hv x hx).1
   have hf2 : (l.filter fun x => decide (x.base = a.base)) = l := List.filter_eq_self.2 fun x hx => by rw [decide_eq_true_eq, (hv x hx).2, (hv a ha).2]
   have hp : ∀ x ∈ l.map partA, PartL x := fun x hx => by
    obtain ⟨y, hy, rfl⟩ := List.mem_map.1 hx
    exact part_access (hv y hy).1
   obtain ⟨y, hy, h1, h2, h3, h4⟩ := part_field hp (partA a) (List.mem_map_of_mem ha)
   have hpa := hp _ (List.mem_map_of_mem ha)
   have hlt := hpa.lt
   have hoff : (partA a).1 = a.off := rfl
   have hva := (hv a ha).1
   simp only [validA, Bool.and_eq_true, decide_eq_true_eq] at hva
   have hw := hva.1.1
   have hend : endF (partA a) = a.off + a.width := by
    unfold endF
    rw [leaf_size hpa.2.1]
    unfold partA
    cases a.sgn
    ·simp [sz_uint _ hw]
    ·simp [sz_int _ hw]
   have hfield : y.1 ∈ fieldsF (l.map partA) := by rw [← pairs_fst]; exact List.mem_map_of_mem hy
   have hhits : hitsA l a = if y.2 then 1 else 0 := by
    have hc := chain_count (P := pairsF (l.map partA)) (n := 0) (by rw [pairs_fst]; exact fields_chain hp) y hy a.off (by rw [hoff] at h1; exact h1) (by rw [hoff] at hlt; omega)
    rw [← hc]
    unfold hitsA pairsF
    rw [hf1, hf2, List.filter_map, List.length_map]
    rfl
   have hat := fun off wd x => laid_at hp h hfield off wd x
   have hyp := (chain_mem (fields_chain hp) _ hfield).2
   cases hb : y.2 with
   | true =>
    left
    rw [hb] at hhits
    refine ⟨hhits, fun n hn1 hn2 => ?_⟩
    obtain ⟨m, hm, e⟩ := h4 hb
    rw [hoff] at h1
    refine hat _ _ _ (by omega) (by omega) (.inl rfl) ?_
    rw [e]
    have hm1 : sizeT y.1.2 = m := by
     rw [leaf_size hyp.2.1, e, sz_arr, sz_uint 1 (.inl rfl)]
     omega
    refine fa_bytes (by omega) ?_ hm
    have : endF y.1 = y.1.1 + m := by unfold endF; rw [hm1]
    omega
   | false =>
    right
    rw [hb] at hhits
    refine ⟨hhits, ?_⟩
    rcases h3 hb with e | ⟨e, hk⟩
    ·rw [e] at hat
     refine ⟨(partA a).2, hat _ _ _ (by rw [hoff]; exact Int.le_refl _) (by rw [hoff] at hlt; omega) hw ?_, ?_⟩
     ·rw [hoff, Int.sub_self]
      refine fa_leaf a.width hw ?_
      unfold partA
      cases a.sgn
      ·exact .inr rfl
      ·exact .inl rfl
     ·unfold partA
      cases a.sgn
      ·exact ⟨rfl, .inr ⟨rfl, rfl⟩⟩
      ·exact ⟨rfl, .inl rfl⟩
    ·have hs : (partA a).2.size = a.width := by
      unfold partA
      cases a.sgn <;> rfl
     have e1 : y.1.1 = a.off := by rw [e]; rfl
     have e2 : y.1.2 = Ty.int a.width := by rw [e]; simp [hs]
     refine ⟨Ty.int a.width, hat _ _ _ (by rw [e1]; exact Int.le_refl _) (by omega) hw ?_, rfl, .inl rfl⟩
     rw [e1, e2, Int.sub_self]
     exact fa_leaf a.width hw (.inl rfl)
  ·rw [if_neg hall] at h; cases h
end Go.Deco
