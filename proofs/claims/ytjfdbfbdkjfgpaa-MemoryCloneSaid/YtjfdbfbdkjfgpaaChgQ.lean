/- Plain laws of a row of stores and of the list of changed addresses. No walk. -/
import Derived.Test.YtjfdbfbdkjfgpaaMemQ
import Derived.Test.YtjfdbfbdkjfgpaaInsA
import Derived.Test.YtjfdbfbdkjfgpaaOpen
namespace Go.Proofs.Ytjfdbfbdkjfgpaa
open Go.RowKit Go.Deco Go.Maps

structure Op9 where
  kind : Int
  width : Int
  addr : Nat
  num : Nat

def opR : Rep Op9 where
  size := 4
  pos := by omega
  rel _ _ cs o := cs = [.int .i64 o.kind, .int .i64 o.width, .int .u32 o.addr, .int .u32 o.num] ∧ -9223372036854775808 ≤ o.width ∧ o.width ≤ 9223372036854775807 ∧ o.addr < 4294967296 ∧ o.num < 4294967296 ∧ -9223372036854775808 ≤ o.kind ∧ o.kind ≤ 9223372036854775807
  keep _ h := h
  mono _ h := h
  len h := by rw [h.1]; rfl
  one h u hu := by
    rw [h.1] at hu
    simp at hu
    rcases hu with rfl | rfl | rfl | rfl <;> rfl

theorem Sl_op_at {w : World} {S : Nat → Prop} {A : Option Addr} {n c k : Nat} {l : List Op9} {s : Op9} (h : Sl opR w S (.slice A n c) l) (hk : l[k]? = some s) :
    ∃ b off, A = some ⟨b, off, none⟩ ∧ w.cell? ⟨b, off + k * 4, none⟩ = some (.int .i64 s.kind) ∧ w.cell? ⟨b, off + k * 4 + 1, none⟩ = some (.int .i64 s.width) ∧ w.cell? ⟨b, off + k * 4 + 2, none⟩ = some (.int .u32 s.addr) ∧
      w.cell? ⟨b, off + k * 4 + 3, none⟩ = some (.int .u32 s.num) ∧ -9223372036854775808 ≤ s.width ∧ s.width ≤ 9223372036854775807 ∧ s.addr < 4294967296 ∧ s.num < 4294967296 := by
  obtain ⟨b, off, cs, hA, ⟨hcs, h1, h2, h3, h4, _⟩, hc⟩ := h.get hk
  subst hcs
  exact ⟨b, off, hA, by simpa [opR] using hc 0 _ rfl, by simpa [opR, Nat.add_assoc] using hc 1 _ rfl, by simpa [opR, Nat.add_assoc] using hc 2 _ rfl, by simpa [opR, Nat.add_assoc] using hc 3 _ rfl, h1, h2, h3, h4⟩

def storeAll (regs : List Reg) (M : Nat → Option Nat) (l : List Op9) : Nat → Option Nat := l.foldl (fun M o => storeMap regs M o.addr o.width o.num) M
theorem storeAll_snoc (regs : List Reg) (M : Nat → Option Nat) (l : List Op9) (o : Op9) : storeAll regs M (l ++ [o]) = storeMap regs (storeAll regs M l) o.addr o.width o.num := by simp [storeAll]

theorem setBytes_mem {M : Nat → Option Nat} {a x n j : Nat} (h : ¬ (a ≤ j ∧ j < a + n)) : setBytes M a x n j = M j := by rw [setBytes_at, if_neg h]

/-- What a row of stores has touched. -/
theorem touched_from {l : List Sec} (h0 : secCheck l = 0) : ∀ (ops : List Op9) (M : Nat → Option Nat) (a : Nat), storeAll (regsOf l) M ops a ≠ none → M a ≠ none ∨ ∃ (i : Nat) (o : Op9) (j : Nat), ops[i]? = some o ∧ j < 4 ∧ a = o.addr + j ∧ o.addr + j < 4294967296
  | [], M, a, h => .inl h
  | o :: r, M, a, h => by
    have h1 : storeAll (regsOf l) (storeMap (regsOf l) M o.addr o.width o.num) r a ≠ none := h
    rcases touched_from h0 r _ a h1 with h2 | ⟨i, o', j, h2, h3⟩
    · by_cases hs : storeErr (regsOf l) o.addr o.width = 0
      · rw [storeMap, if_pos hs] at h2
        by_cases hr : o.addr ≤ a ∧ a < o.addr + o.width.toNat
        · obtain ⟨r', hw, hm, _⟩ := store_ok hs
          have hb := mapped_lt (regsOf_bound h0) hm
          exact .inr ⟨0, o, a - o.addr, rfl, by omega, by omega, by omega⟩
        · rw [setBytes_mem hr] at h2
          exact .inl h2
      · rw [storeMap_no hs] at h2
        exact .inl h2
    · exact .inr ⟨i + 1, o', j, by simpa using h2, h3⟩
theorem touched {l : List Sec} (h0 : secCheck l = 0) (ops : List Op9) (a : Nat) (h : storeAll (regsOf l) (fun _ => none) ops a ≠ none) : ∃ (i : Nat) (o : Op9) (j : Nat), ops[i]? = some o ∧ j < 4 ∧ a = o.addr + j ∧ o.addr + j < 4294967296 := by
  rcases touched_from h0 ops _ a h with h1 | h1
  · exact absurd rfl h1
  · exact h1

theorem load_one (regs : List Reg) (M : Nat → Option Nat) (a : Nat) : (loadOf regs M a 1).1 = match findReg regs a with | none => 0 | some r => byteAt r M a := by
  unfold loadOf mappedReg
  rw [if_pos (by rfl)]
  cases hf : findReg regs a with
  | none => rfl
  | some r =>
    have := findReg_has hf
    simp only
    rw [if_neg (by simp; omega)]
    simp only
    rw [presentOf_room (by simp; omega)]
    rfl
theorem differ_iff (regs : List Reg) (M : Nat → Option Nat) (a : Nat) : changedAt regs M a = true ↔ (loadOf regs M a 1).1 ≠ (loadOf regs (fun _ => none) a 1).1 := by
  rw [load_one, load_one]
  unfold changedAt
  cases hf : findReg regs a with
  | none => simp
  | some r =>
    simp only [byteAt, Option.getD_none]
    cases hM : M a with
    | none => simp
    | some c =>
      simp
      exact ⟨fun h e => h e.symm, fun h e => h e.symm⟩
theorem changed_some {regs : List Reg} {M : Nat → Option Nat} {a : Nat} (h : changedAt regs M a = true) : M a ≠ none := by
  intro e
  unfold changedAt at h
  split at h
  · cases h
  · rw [e] at h
    cases h

theorem insOf_mem : ∀ (l : List Nat) (x a : Nat), a ∈ insOf l x ↔ a = x ∨ a ∈ l
  | [], x, a => by simp [insOf]
  | y :: r, x, a => by
    rw [insOf]
    split
    · rw [List.mem_cons, insOf_mem r x a, List.mem_cons]
      constructor
      · rintro (h | h | h)
        · exact .inr (.inl h)
        · exact .inl h
        · exact .inr (.inr h)
      · rintro (h | h | h)
        · exact .inr (.inl h)
        · exact .inl h
        · exact .inr (.inr h)
    · split
      · subst_vars
        simp
      · simp
theorem insOf_asc : ∀ {l : List Nat} {x : Nat}, l.Pairwise (· < ·) → (insOf l x).Pairwise (· < ·)
  | [], x, _ => by simp [insOf]
  | y :: r, x, h => by
    rw [List.pairwise_cons] at h
    rw [insOf]
    split
    · rename_i hyx
      rw [List.pairwise_cons]
      refine ⟨fun a ha => ?_, insOf_asc h.2⟩
      rcases (insOf_mem r x a).1 ha with rfl | h1
      · exact hyx
      · exact h.1 a h1
    · split
      · exact List.pairwise_cons.2 h
      · rw [List.pairwise_cons]
        refine ⟨fun a ha => ?_, List.pairwise_cons.2 h⟩
        rcases List.mem_cons.1 ha with rfl | h1
        · omega
        · have := h.1 a h1
          omega
/-- Two ascending lists with the same elements. -/
theorem asc_ext : ∀ {l m : List Nat}, l.Pairwise (· < ·) → m.Pairwise (· < ·) → (∀ a, a ∈ l ↔ a ∈ m) → l = m
  | [], [], _, _, _ => rfl
  | [], y :: r, _, _, h => absurd ((h y).2 (by simp)) (by simp)
  | x :: l, [], _, _, h => absurd ((h x).1 (by simp)) (by simp)
  | x :: l, y :: m, hl, hm, h => by
    rw [List.pairwise_cons] at hl hm
    have e : x = y := by
      rcases List.mem_cons.1 ((h x).1 (by simp)) with h1 | h1
      · exact h1
      · rcases List.mem_cons.1 ((h y).2 (by simp)) with h2 | h2
        · exact h2.symm
        · have := hm.1 x h1
          have := hl.1 y h2
          omega
    subst e
    congr 1
    refine asc_ext hl.2 hm.2 fun a => ⟨fun ha => ?_, fun ha => ?_⟩
    · rcases List.mem_cons.1 ((h a).1 (List.mem_cons_of_mem _ ha)) with h1 | h1
      · have := hl.1 a ha
        omega
      · exact h1
    · rcases List.mem_cons.1 ((h a).2 (List.mem_cons_of_mem _ ha)) with h1 | h1
      · have := hm.1 a ha
        omega
      · exact h1

/-- The list in the making: all differing addresses of the calls before (i, k). -/
structure Want (regs : List Reg) (M : Nat → Option Nat) (ops : List Op9) (i k : Nat) (L : List Nat) : Prop where
  asc : L.Pairwise (· < ·)
  sound : ∀ a ∈ L, changedAt regs M a = true
  all : ∀ (i' k' : Nat) (o : Op9), ops[i']? = some o → k' < 4 → (i' < i ∨ i' = i ∧ k' < k) → o.addr + k' < 4294967296 → changedAt regs M (o.addr + k') = true → o.addr + k' ∈ L
  small : L.length ≤ 4 * i + k
theorem Want.next {regs : List Reg} {M : Nat → Option Nat} {ops : List Op9} {i : Nat} {L : List Nat} (h : Want regs M ops i 4 L) : Want regs M ops (i + 1) 0 L :=
  ⟨h.asc, h.sound, fun i' k' o h1 h2 h3 h4 h5 => h.all i' k' o h1 h2 (by omega) h4 h5, by have := h.small; omega⟩
theorem Want.skip {regs : List Reg} {M : Nat → Option Nat} {ops : List Op9} {i k : Nat} {L : List Nat} (h : Want regs M ops i k L) {o : Op9} (ho : ops[i]? = some o) (a : Nat) (ha : a = (o.addr + k) % 4294967296) (hd : changedAt regs M a = false) :
    Want regs M ops i (k + 1) L := by
  refine ⟨h.asc, h.sound, fun i' k' o' h1 h2 h3 h4 h5 => ?_, by have := h.small; omega⟩
  by_cases e : i' = i ∧ k' = k
  · obtain ⟨rfl, rfl⟩ := e
    rw [ho] at h1
    cases h1
    rw [ha, Nat.mod_eq_of_lt h4, h5] at hd
    cases hd
  · exact h.all i' k' o' h1 h2 (by omega) h4 h5
theorem Want.put {regs : List Reg} {M : Nat → Option Nat} {ops : List Op9} {i k : Nat} {L : List Nat} (h : Want regs M ops i k L) {o : Op9} (ho : ops[i]? = some o) (a : Nat) (ha : a = (o.addr + k) % 4294967296) (hd : changedAt regs M a = true) :
    Want regs M ops i (k + 1) (insOf L a) := by
  refine ⟨insOf_asc h.asc, fun x hx => ?_, fun i' k' o' h1 h2 h3 h4 h5 => ?_, by have := h.small; have := insOf_length L a; omega⟩
  · rcases (insOf_mem L a x).1 hx with rfl | h1
    · exact hd
    · exact h.sound x h1
  · rw [insOf_mem]
    by_cases e : i' = i ∧ k' = k
    · obtain ⟨rfl, rfl⟩ := e
      rw [ho] at h1
      cases h1
      rw [ha, Nat.mod_eq_of_lt h4]
      exact .inl rfl
    · exact .inr (h.all i' k' o' h1 h2 (by omega) h4 h5)
theorem Want.start (regs : List Reg) (M : Nat → Option Nat) (ops : List Op9) : Want regs M ops 0 0 [] :=
  ⟨List.Pairwise.nil, fun a ha => by simp at ha, fun i' k' o h1 h2 h3 => by omega, by simp⟩
theorem Want.done {l : List Sec} (h0 : secCheck l = 0) {ops : List Op9} {L C : List Nat} (h : Want (regsOf l) (storeAll (regsOf l) (fun _ => none) ops) ops ops.length 0 L)
    (h1 : C.Pairwise (· < ·)) (h2 : ∀ a, a ∈ C ↔ changedAt (regsOf l) (storeAll (regsOf l) (fun _ => none) ops) a = true) : C = L := by
  refine asc_ext h1 h.asc fun a => ?_
  rw [h2]
  refine ⟨fun hc => ?_, h.sound a⟩
  obtain ⟨i, o, j, h3, h4, h5, h6⟩ := touched h0 ops a (changed_some hc)
  subst h5
  exact h.all i j o h3 h4 (.inl (List.getElem?_eq_some_iff.1 h3).1) h6 hc

theorem MemAt.far {P : Program} {tk te : TypeId} {w w' : World} {mb bm n mb' bm' n' : Nat} {regs regs' : List Reg} {M M' : Nat → Option Nat} (h : MemAt P tk te w mb bm regs M n) (h' : MemAt P tk te w mb' bm' regs' M' n') (hne : bm ≠ bm')
    (hg : w.grownBy w' (some bm')) : MemAt P tk te w' mb bm regs M n := by
  obtain ⟨A, c, D, h0, h1, h2, h3, h4⟩ := h
  obtain ⟨A', c', D', k0, k1, k2, k3, k4⟩ := h'
  exact ⟨A, c, D, cell_map k3 hg h0, cell_map k3 hg h1, h2.keep fun b _ hb => keep_map k3 hg hb, h3.kept hg (by simpa using hne), h4⟩
end Go.Proofs.Ytjfdbfbdkjfgpaa
