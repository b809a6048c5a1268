/- Stable sorting as plain law: insertion, merging, exchanging two neighbouring parts of a list. No program in sight. -/
import Derived.Test.YtekilcnkinmakaaDoorBase
namespace Go.Deco
open Go Go.RowKit
set_option linter.unusedSimpArgs false
set_option linter.unusedVariables false
section
variable {α : Type}

/-- What is asked of 'x is less than y'. -/
structure Weak (lt : α → α → Bool) : Prop where
  asym : ∀ x y, lt x y = true → lt y x = false
  trans : ∀ x y z, lt y x = false → lt z y = false → lt z x = false
namespace Weak
variable {lt : α → α → Bool}
theorem irr (W : Weak lt) (x : α) : lt x x = false := by
  cases h : lt x x with
  | false => rfl
  | true => rw [← W.asym x x h, h]
theorem lt_le (W : Weak lt) {x y z : α} (h : lt x y = true) (k : lt z y = false) : lt x z = true := by
  cases e : lt x z with
  | true => rfl
  | false => rw [W.trans y z x k e] at h; cases h
theorem le_lt (W : Weak lt) {x y z : α} (h : lt y x = false) (k : lt y z = true) : lt x z = true := by
  cases e : lt x z with
  | true => rfl
  | false => rw [W.trans z x y e h] at k; cases k
end Weak
/-- Neither is less. -/
def eqvB (lt : α → α → Bool) (p x : α) : Bool := !lt p x && !lt x p
theorem eqvB_iff {lt : α → α → Bool} {p x : α} : eqvB lt p x = true ↔ lt p x = false ∧ lt x p = false := by
  unfold eqvB
  cases lt p x <;> cases lt x p <;> simp
def Srt (lt : α → α → Bool) (l : List α) : Prop := l.Pairwise fun x y => lt y x = false
/-- Equal elements are the same ones, in the same order. -/
def Cls (lt : α → α → Bool) (l m : List α) : Prop := ∀ p, m.filter (eqvB lt p) = l.filter (eqvB lt p)
theorem Cls.refl (lt : α → α → Bool) (l : List α) : Cls lt l l := fun _ => rfl
theorem Cls.trans {lt : α → α → Bool} {a b c : List α} (h : Cls lt a b) (k : Cls lt b c) : Cls lt a c := fun p => (k p).trans (h p)
theorem Cls.symm {lt : α → α → Bool} {a b : List α} (h : Cls lt a b) : Cls lt b a := fun p => (h p).symm
theorem Cls.app {lt : α → α → Bool} {a b c d : List α} (h : Cls lt a b) (k : Cls lt c d) : Cls lt (a ++ c) (b ++ d) := fun p => by rw [List.filter_append, List.filter_append, h p, k p]
theorem Cls.mem {lt : α → α → Bool} (W : Weak lt) {l m : List α} (h : Cls lt l m) (x : α) : x ∈ m ↔ x ∈ l := by
  have hx : eqvB lt x x = true := eqvB_iff.2 ⟨W.irr x, W.irr x⟩
  constructor
  · intro hm
    have : x ∈ m.filter (eqvB lt x) := List.mem_filter.2 ⟨hm, hx⟩
    rw [h x] at this
    exact (List.mem_filter.1 this).1
  · intro hl
    have : x ∈ l.filter (eqvB lt x) := List.mem_filter.2 ⟨hl, hx⟩
    rw [← h x] at this
    exact (List.mem_filter.1 this).1
theorem srt_uniq {lt : α → α → Bool} (W : Weak lt) : ∀ {l m : List α}, Srt lt l → Srt lt m → Cls lt l m → l = m
  | [], [], _, _, _ => rfl
  | [], y :: t, _, _, h => by
    have := (h.mem W y).1 (List.mem_cons_self ..)
    cases this
  | x :: l, [], _, _, h => by
    have := (h.mem W x).2 (List.mem_cons_self ..)
    cases this
  | x :: l, y :: m, hl, hm, h => by
    have hl1 := (List.pairwise_cons.1 hl)
    have hm1 := (List.pairwise_cons.1 hm)
    have h1 : lt x y = false := by
      rcases List.mem_cons.1 ((h.mem W x).2 (List.mem_cons_self ..)) with e | e
      · rw [e]; exact W.irr y
      · exact hm1.1 x e
    have h2 : lt y x = false := by
      rcases List.mem_cons.1 ((h.mem W y).1 (List.mem_cons_self ..)) with e | e
      · rw [e]; exact W.irr x
      · exact hl1.1 y e
    have hx : eqvB lt x x = true := eqvB_iff.2 ⟨W.irr x, W.irr x⟩
    have hy : eqvB lt x y = true := eqvB_iff.2 ⟨h1, h2⟩
    have h3 := h x
    rw [List.filter_cons_of_pos hx, List.filter_cons_of_pos hy] at h3
    have h4 : y = x := (List.cons.inj h3).1
    subst h4
    have h5 : Cls lt l m := fun p => by
      have h6 := h p
      cases e : eqvB lt p y with
      | true =>
        rw [List.filter_cons_of_pos e, List.filter_cons_of_pos e] at h6
        exact (List.cons.inj h6).2
      | false =>
        rw [List.filter_cons_of_neg (by rw [e]; exact Bool.noConfusion), List.filter_cons_of_neg (by rw [e]; exact Bool.noConfusion)] at h6
        exact h6
    rw [srt_uniq W hl1.2 hm1.2 h5]

/-! ### insertion behind what is not greater -/
def insR (lt : α → α → Bool) (x : α) : List α → List α
  | [] => [x]
  | o :: t => if lt x o then x :: o :: t else o :: insR lt x t
theorem insR_at {lt : α → α → Bool} : ∀ {O : List α} {x : α} {k : Nat}, (∀ j, j < k → ∀ y, O[j]? = some y → lt x y = false) → k ≤ O.length → (∀ y, O[k]? = some y → lt x y = true) → insR lt x O = O.take k ++ x :: O.drop k
  | [], x, k, _, hk, _ => by
    have : k = 0 := by simpa using hk
    subst this
    rfl
  | o :: t, x, 0, _, _, hg => by
    have := hg o rfl
    simp [insR, this]
  | o :: t, x, k + 1, hl, hk, hg => by
    have h0 := hl 0 (by omega) o rfl
    have ih := insR_at (O := t) (x := x) (k := k) (fun j hj y hy => hl (j + 1) (by omega) y (by simpa using hy)) (by simpa using hk) (fun y hy => hg y (by simpa using hy))
    rw [insR, if_neg (by rw [h0]; exact Bool.noConfusion), ih]
    rfl
theorem insR_mem {lt : α → α → Bool} : ∀ {O : List α} {x y : α}, y ∈ insR lt x O ↔ y = x ∨ y ∈ O
  | [], x, y => by simp [insR]
  | o :: t, x, y => by
    rw [insR]
    split
    · simp
    · rw [List.mem_cons, insR_mem, List.mem_cons]
      constructor
      · rintro (h | h | h) <;> simp [h]
      · rintro (h | h | h) <;> simp [h]
theorem insR_srt {lt : α → α → Bool} (W : Weak lt) : ∀ {O : List α} {x : α}, Srt lt O → Srt lt (insR lt x O)
  | [], x, _ => List.pairwise_singleton _ _
  | o :: t, x, h => by
    have h1 := List.pairwise_cons.1 h
    rw [insR]
    split
    · next hx =>
      refine List.pairwise_cons.2 ⟨fun y hy => ?_, h⟩
      rcases List.mem_cons.1 hy with rfl | hy
      · exact W.asym _ _ hx
      · exact W.asym _ _ (W.lt_le hx (h1.1 y hy))
    · next hx =>
      refine List.pairwise_cons.2 ⟨fun y hy => ?_, insR_srt W h1.2⟩
      rcases insR_mem.1 hy with rfl | hy
      · simpa using hx
      · exact h1.1 y hy
theorem no_eqv {lt : α → α → Bool} (W : Weak lt) {p x : α} {l : List α} (hp : eqvB lt p x = true) (h : ∀ y ∈ l, lt x y = true) : l.filter (eqvB lt p) = [] := by
  rw [List.filter_eq_nil_iff]
  intro y hy he
  have h1 := (eqvB_iff.1 he).1
  have h2 := (eqvB_iff.1 hp).2
  have h3 := W.lt_le (h y hy) h1
  rw [h2] at h3
  cases h3
theorem insR_cls {lt : α → α → Bool} (W : Weak lt) : ∀ {O : List α} {x : α}, Srt lt O → Cls lt (O ++ [x]) (insR lt x O)
  | [], x, _ => Cls.refl _ _
  | o :: t, x, h => by
    have h1 := List.pairwise_cons.1 h
    rw [insR]
    split
    · next hx =>
      intro p
      rw [List.filter_append]
      cases e : eqvB lt p x with
      | true =>
        have h2 : (o :: t).filter (eqvB lt p) = [] := no_eqv W e fun y hy => by
          rcases List.mem_cons.1 hy with rfl | hy
          · exact hx
          · exact W.lt_le hx (h1.1 y hy)
        rw [List.filter_cons_of_pos e, h2, List.filter_cons_of_pos e]
        rfl
      | false =>
        have e2 : [x].filter (eqvB lt p) = [] := by rw [List.filter_cons_of_neg (by rw [e]; exact Bool.noConfusion)]; rfl
        rw [e2, List.append_nil, List.filter_cons_of_neg (a := x) (by rw [e]; exact Bool.noConfusion)]
    · intro p
      have ih := insR_cls W (x := x) h1.2 p
      rw [List.cons_append, List.filter_cons, List.filter_cons, ih]
/-- The list sorted, equal elements in their order. -/
def stab (lt : α → α → Bool) (l : List α) : List α := l.foldl (fun O x => insR lt x O) []
theorem stab_snoc (lt : α → α → Bool) (l : List α) (x : α) : stab lt (l ++ [x]) = insR lt x (stab lt l) := by simp [stab]
theorem snoc_ind {P : List α → Prop} (h0 : P []) (hs : ∀ l x, P l → P (l ++ [x])) (l : List α) : P l := by
  have key : ∀ n (l : List α), l.length = n → P l := by
    intro n
    induction n with
    | zero => intro l hl; rw [List.length_eq_zero_iff.1 hl]; exact h0
    | succ n ih =>
      intro l hl
      have hne : l ≠ [] := fun e => by rw [e] at hl; cases hl
      rw [← List.dropLast_concat_getLast hne]
      exact hs _ _ (ih _ (by rw [List.length_dropLast, hl]; rfl))
  exact key l.length l rfl
theorem stab_ok {lt : α → α → Bool} (W : Weak lt) (l : List α) : Srt lt (stab lt l) ∧ Cls lt l (stab lt l) := by
  refine snoc_ind (P := fun l => Srt lt (stab lt l) ∧ Cls lt l (stab lt l)) ⟨List.Pairwise.nil, Cls.refl _ _⟩ (fun l x h => ?_) l
  rw [stab_snoc]
  exact ⟨insR_srt W h.1, (h.2.app (Cls.refl lt [x])).trans (insR_cls W h.1)⟩
theorem insR_len (lt : α → α → Bool) (x : α) : ∀ O : List α, (insR lt x O).length = O.length + 1
  | [] => rfl
  | o :: t => by
    rw [insR]
    split
    · rfl
    · rw [List.length_cons, insR_len lt x t, List.length_cons]
theorem stab_len (lt : α → α → Bool) (l : List α) : (stab lt l).length = l.length := by
  refine snoc_ind (P := fun l => (stab lt l).length = l.length) rfl (fun l x h => ?_) l
  rw [stab_snoc, insR_len, h, List.length_append]
  rfl

/-! ### merging -/
def mrg (lt : α → α → Bool) : List α → List α → List α
  | [], R => R
  | l :: L, [] => l :: L
  | l :: L, r :: R => if lt r l then r :: mrg lt (l :: L) R else l :: mrg lt L (r :: R)
termination_by L R => L.length + R.length
theorem mrg_nil {lt : α → α → Bool} (R : List α) : mrg lt [] R = R := by rw [mrg]
theorem mrg_nil' {lt : α → α → Bool} (L : List α) : mrg lt L [] = L := by cases L <;> rw [mrg]
theorem mrg_cons {lt : α → α → Bool} (l r : α) (L R : List α) : mrg lt (l :: L) (r :: R) = if lt r l then r :: mrg lt (l :: L) R else l :: mrg lt L (r :: R) := by rw [mrg]
theorem mrg_left {lt : α → α → Bool} {L R : List α} : ∀ {M : List α}, (∀ r ∈ M, ∀ l ∈ L, lt r l = true) → mrg lt L (M ++ R) = M ++ mrg lt L R
  | [], _ => rfl
  | r :: M, h => by
    cases L with
    | nil => rw [mrg_nil, mrg_nil]
    | cons l L =>
      rw [List.cons_append, mrg_cons, if_pos (h r (List.mem_cons_self ..) l (List.mem_cons_self ..)), mrg_left fun r hr => h r (List.mem_cons_of_mem _ hr)]
      rfl
theorem mrg_right {lt : α → α → Bool} {L R : List α} : ∀ {M : List α}, (∀ l ∈ M, ∀ r ∈ R, lt r l = false) → mrg lt (M ++ L) R = M ++ mrg lt L R
  | [], _ => rfl
  | l :: M, h => by
    cases R with
    | nil => rw [mrg_nil', mrg_nil']
    | cons r R =>
      rw [List.cons_append, mrg_cons, if_neg (by rw [h l (List.mem_cons_self ..) r (List.mem_cons_self ..)]; exact Bool.noConfusion), mrg_right fun l hl => h l (List.mem_cons_of_mem _ hl)]
      rfl
theorem mrg_split {lt : α → α → Bool} {L2 R2 : List α} : ∀ (n : Nat) {L1 R1 : List α}, L1.length + R1.length ≤ n → (∀ r ∈ R1, ∀ l ∈ L2, lt r l = true) → (∀ l ∈ L1, ∀ r ∈ R2, lt r l = false) → mrg lt (L1 ++ L2) (R1 ++ R2) = mrg lt L1 R1 ++ mrg lt L2 R2
  | n, [], R1, _, h, _ => by rw [List.nil_append, mrg_left h, mrg_nil]
  | n, l :: L1, [], _, _, k => by rw [List.nil_append, mrg_right k, mrg_nil']
  | 0, l :: L1, r :: R1, hn, _, _ => by simp at hn
  | n + 1, l :: L1, r :: R1, hn, h, k => by
    rw [List.cons_append, List.cons_append, mrg_cons, mrg_cons]
    split
    · have := mrg_split n (L1 := l :: L1) (R1 := R1) (by simp at hn ⊢; omega) (fun r hr => h r (List.mem_cons_of_mem _ hr)) k
      rw [List.cons_append] at this
      rw [this]
      rfl
    · have := mrg_split n (L1 := L1) (R1 := r :: R1) (by simp at hn ⊢; omega) h (fun l hl => k l (List.mem_cons_of_mem _ hl))
      rw [List.cons_append] at this
      rw [this]
      rfl
theorem mrg_mem {lt : α → α → Bool} : ∀ (n : Nat) {L R : List α} {x : α}, L.length + R.length ≤ n → (x ∈ mrg lt L R ↔ x ∈ L ∨ x ∈ R)
  | n, [], R, x, _ => by rw [mrg_nil]; simp
  | n, l :: L, [], x, _ => by rw [mrg_nil']; simp
  | 0, l :: L, r :: R, x, hn => by simp at hn
  | n + 1, l :: L, r :: R, x, hn => by
    rw [mrg_cons]
    split
    · rw [List.mem_cons, mrg_mem n (by simp at hn ⊢; omega), List.mem_cons (l := R)]
      constructor
      · rintro (h | h | h) <;> simp [h]
      · rintro (h | h | h) <;> simp [h]
    · rw [List.mem_cons, mrg_mem n (by simp at hn ⊢; omega), List.mem_cons (l := L)]
      constructor
      · rintro (h | h | h) <;> simp [h]
      · rintro ((h | h) | h) <;> simp [h]
theorem mrg_srt {lt : α → α → Bool} (W : Weak lt) : ∀ (n : Nat) {L R : List α}, L.length + R.length ≤ n → Srt lt L → Srt lt R → Srt lt (mrg lt L R)
  | n, [], R, _, _, h => by rw [mrg_nil]; exact h
  | n, l :: L, [], _, h, _ => by rw [mrg_nil']; exact h
  | 0, l :: L, r :: R, hn, _, _ => by simp at hn
  | n + 1, l :: L, r :: R, hn, hl, hr => by
    have hl1 := List.pairwise_cons.1 hl
    have hr1 := List.pairwise_cons.1 hr
    rw [mrg_cons]
    split
    · next hx =>
      refine List.pairwise_cons.2 ⟨fun y hy => ?_, mrg_srt W n (by simp at hn ⊢; omega) hl hr1.2⟩
      rcases (mrg_mem _ (Nat.le_refl _)).1 hy with hy | hy
      · rcases List.mem_cons.1 hy with rfl | hy
        · exact W.asym _ _ hx
        · exact W.asym _ _ (W.lt_le hx (hl1.1 y hy))
      · exact hr1.1 y hy
    · next hx =>
      have hx : lt r l = false := by simpa using hx
      refine List.pairwise_cons.2 ⟨fun y hy => ?_, mrg_srt W n (by simp at hn ⊢; omega) hl1.2 hr⟩
      rcases (mrg_mem _ (Nat.le_refl _)).1 hy with hy | hy
      · exact hl1.1 y hy
      · rcases List.mem_cons.1 hy with rfl | hy
        · exact hx
        · exact W.trans _ _ _ hx (hr1.1 y hy)
theorem mrg_cls {lt : α → α → Bool} (W : Weak lt) : ∀ (n : Nat) {L R : List α}, L.length + R.length ≤ n → Srt lt L → Srt lt R → Cls lt (L ++ R) (mrg lt L R)
  | n, [], R, _, _, _ => by rw [mrg_nil]; exact Cls.refl _ _
  | n, l :: L, [], _, _, _ => by rw [mrg_nil', List.append_nil]; exact Cls.refl _ _
  | 0, l :: L, r :: R, hn, _, _ => by simp at hn
  | n + 1, l :: L, r :: R, hn, hl, hr => by
    have hl1 := List.pairwise_cons.1 hl
    have hr1 := List.pairwise_cons.1 hr
    rw [mrg_cons]
    split
    · next hx =>
      intro p
      have ih := mrg_cls W n (L := l :: L) (R := R) (by simp at hn ⊢; omega) hl hr1.2 p
      rw [List.filter_cons, ih, List.filter_append, List.filter_append]
      cases e : eqvB lt p r with
      | true =>
        have h2 : (l :: L).filter (eqvB lt p) = [] := no_eqv W e fun y hy => by
          rcases List.mem_cons.1 hy with rfl | hy
          · exact hx
          · exact W.lt_le hx (hl1.1 y hy)
        rw [h2, List.filter_cons_of_pos e]
        rfl
      | false =>
        rw [List.filter_cons_of_neg (l := R) (by rw [e]; exact Bool.noConfusion)]
        rfl
    · intro p
      have ih := mrg_cls W n (L := L) (R := r :: R) (by simp at hn ⊢; omega) hl1.2 hr p
      rw [List.cons_append, List.filter_cons, List.filter_cons, ih]
theorem mrg_len {lt : α → α → Bool} : ∀ (n : Nat) {L R : List α}, L.length + R.length ≤ n → (mrg lt L R).length = L.length + R.length
  | n, [], R, _ => by rw [mrg_nil]; simp
  | n, l :: L, [], _ => by rw [mrg_nil']; simp
  | 0, l :: L, r :: R, hn => by simp at hn
  | n + 1, l :: L, r :: R, hn => by
    rw [mrg_cons]
    split
    · rw [List.length_cons, mrg_len n (by simp at hn ⊢; omega)]; simp; omega
    · rw [List.length_cons, mrg_len n (by simp at hn ⊢; omega)]; simp; omega
theorem stab_app {lt : α → α → Bool} (W : Weak lt) (X Y : List α) : stab lt (X ++ Y) = mrg lt (stab lt X) (stab lt Y) := by
  obtain ⟨a1, a2⟩ := stab_ok W (X ++ Y)
  obtain ⟨b1, b2⟩ := stab_ok W X
  obtain ⟨c1, c2⟩ := stab_ok W Y
  exact srt_uniq W a1 (mrg_srt W _ (Nat.le_refl _) b1 c1) (a2.symm.trans ((b2.app c2).trans (mrg_cls W _ (Nat.le_refl _) b1 c1)))
theorem stab_self {lt : α → α → Bool} (W : Weak lt) {l : List α} (h : Srt lt l) : stab lt l = l := srt_uniq W (stab_ok W l).1 h (stab_ok W l).2.symm
/-- Where no two elements are equal, their order does not matter. -/
theorem stab_perm {lt : α → α → Bool} (W : Weak lt) {l m : List α} (hp : l.Perm m) (hn : l.Pairwise fun x y => eqvB lt x y = false) : stab lt l = stab lt m := by
  refine srt_uniq W (stab_ok W l).1 (stab_ok W m).1 (fun p => ?_)
  rw [(stab_ok W l).2 p, (stab_ok W m).2 p]
  have hf := hp.filter (eqvB lt p)
  have h1 : (l.filter (eqvB lt p)).length ≤ 1 := by
    have hpw : (l.filter (eqvB lt p)).Pairwise fun x y => eqvB lt x y = false := hn.sublist List.filter_sublist
    match e : l.filter (eqvB lt p) with
    | [] => simp
    | [_] => simp
    | x :: y :: t =>
      rw [e] at hpw
      have h2 := (List.pairwise_cons.1 hpw).1 y (by simp)
      have hx := (List.mem_filter.1 (show x ∈ l.filter (eqvB lt p) by rw [e]; simp)).2
      have hy := (List.mem_filter.1 (show y ∈ l.filter (eqvB lt p) by rw [e]; simp)).2
      obtain ⟨x1, x2⟩ := eqvB_iff.1 hx
      obtain ⟨y1, y2⟩ := eqvB_iff.1 hy
      have : eqvB lt x y = true := eqvB_iff.2 ⟨W.trans _ _ _ y1 x2, W.trans _ _ _ x1 y2⟩
      rw [h2] at this
      cases this
  match e : l.filter (eqvB lt p), e2 : m.filter (eqvB lt p) with
  | [], [] => rfl
  | [], y :: t => rw [e, e2] at hf; exact absurd hf.length_eq (by simp)
  | [x], [] => rw [e, e2] at hf; exact absurd hf.length_eq (by simp)
  | [x], [y] => rw [e, e2] at hf; have := List.perm_singleton.1 hf; exact this.symm
  | [x], y :: z :: t => rw [e, e2] at hf; exact absurd hf.length_eq (by simp)
  | x :: y :: t, _ => rw [e] at h1; simp at h1

/-! ### two parts exchanged -/
/-- The first i of two equally long parts, at a and b, have been exchanged. -/
def Swp (D : List α) (a b i : Nat) (D' : List α) : Prop :=
  D'.length = D.length ∧ ∀ k : Nat, D'[k]? = if a ≤ k ∧ k < a + i then D[k + (b - a)]? else if b ≤ k ∧ k < b + i then D[k - (b - a)]? else D[k]?
theorem Swp.start (D : List α) (a b : Nat) : Swp D a b 0 D := ⟨rfl, fun k => by rw [if_neg (by omega), if_neg (by omega)]⟩
theorem Swp.step {D D' : List α} {a b i n : Nat} {x y : α} (h : Swp D a b i D') (hn : a + n ≤ b) (hi : i < n) (hx : D[b + i]? = some x) (hy : D[a + i]? = some y) : Swp D a b (i + 1) ((D'.set (a + i) x).set (b + i) y) := by
  have hbl := (List.getElem?_eq_some_iff.1 hx).1
  refine ⟨by simp [h.1], fun k => ?_⟩
  rw [List.getElem?_set, List.getElem?_set]
  simp only [List.length_set, h.1]
  by_cases e1 : b + i = k
  · subst e1
    rw [if_pos rfl, if_pos hbl, if_neg (by omega), if_pos (by omega), ← hy]
    congr 1
    omega
  · rw [if_neg e1]
    by_cases e2 : a + i = k
    · subst e2
      rw [if_pos rfl, if_pos (by omega), if_pos (by omega), ← hx]
      congr 1
      omega
    · rw [if_neg e2, h.2]
      by_cases c1 : a ≤ k ∧ k < a + i
      · have c1' : a ≤ k ∧ k < a + (i + 1) := by omega
        rw [if_pos c1, if_pos c1']
      · have c1' : ¬ (a ≤ k ∧ k < a + (i + 1)) := by omega
        rw [if_neg c1, if_neg c1']
        by_cases c2 : b ≤ k ∧ k < b + i
        · have c2' : b ≤ k ∧ k < b + (i + 1) := by omega
          rw [if_pos c2, if_pos c2']
        · have c2' : ¬ (b ≤ k ∧ k < b + (i + 1)) := by omega
          rw [if_neg c2, if_neg c2']
theorem Swp.at1 {D D' : List α} {a b i n : Nat} (h : Swp D a b i D') (hn : a + n ≤ b) (hi : i < n) : D'[a + i]? = D[a + i]? := by rw [h.2, if_neg (by omega), if_neg (by omega)]
theorem Swp.at2 {D D' : List α} {a b i n : Nat} (h : Swp D a b i D') (hn : a + n ≤ b) (hi : i < n) : D'[b + i]? = D[b + i]? := by rw [h.2, if_neg (by omega), if_neg (by omega)]
theorem Swp.fin {P X M Y Q D' : List α} (h : Swp (P ++ (X ++ (M ++ (Y ++ Q)))) P.length (P.length + X.length + M.length) X.length D') (hxy : Y.length = X.length) : D' = P ++ (Y ++ (M ++ (X ++ Q))) := by
  refine List.ext_getElem? fun k => ?_
  rw [h.2]
  simp only [List.getElem?_append, hxy]
  repeat' split
  all_goals first
    | rfl
    | omega
    | (congr 1; omega)
    | (exfalso; omega)
end
end Go.Deco
