/- The keys of a map to numbers, sorted: maps.Keys and slices.Sorted as plain calls. -/
import Derived.Test.YtnlmhnbogleijaaGreatDoorKbcm
import Derived.Test.YtnlmhnbogleijaaGreatDoorMap
import Derived.Test.YtnlmhnbogleijaaGreatDoorUabm
import Derived.Test.YtnlmhnbogleijaaGreatDoorInsm
namespace Go.Proofs.YtnlmhnbogleijaaGreatDoor
open Go.RowKit Go.Deco Go.Maps
set_option linter.unusedVariables false

theorem held_entries {P : Program} {k : TypeId} {w : World} {b n : Nat} {es : List (Lit × DataW Value)} (h : w.ownsMap P k heldV b n (.map es)) : ∀ p ∈ es, ∃ v, p.2 = .held v := by
  obtain ⟨es0, clock, hb, F, _, hD⟩ := h
  injection hD with hD
  intro p hp
  rw [hD] at hp
  obtain ⟨x, hx, rfl⟩ := List.mem_map.1 (mem_sorted.1 hp)
  obtain ⟨y, hy⟩ := F.reads x hx
  rw [WideElems.rg_of hy]
  obtain ⟨z, hz, e⟩ := WideElems.rd_val hy
  simp [heldV] at hz
  exact ⟨x.val, by rw [e, ← hz]⟩

theorem look_some {es : List (Lit × DataW Value)} (hh : ∀ p ∈ es, ∃ v, p.2 = .held v) (kl : Lit) : (lookV (.map es) kl).isSome = has (.map es) kl := by
  cases h : has (.map es) kl with
  | false => rw [lookV, atKey_of_not_has h]; rfl
  | true =>
    rw [has_eq, List.any_eq_true] at h
    obtain ⟨p, hp, hs⟩ := h
    have hf : ∃ q, es.find? (fun p => p.1.sameKey kl) = some q := by
      cases hq : es.find? (fun p => p.1.sameKey kl) with
      | some q => exact ⟨q, rfl⟩
      | none => exact absurd hs (by simpa using List.find?_eq_none.1 hq p hp)
    obtain ⟨q, hq⟩ := hf
    obtain ⟨v, hv⟩ := hh q (List.mem_of_find?_eq_some hq)
    have : (DataW.map es).atKey kl .nil = .held v := by
      simp only [DataW.atKey, hq]
      exact hv
    rw [lookV, this]
    rfl

theorem keys_perm {w : World} {b n : Nat} {D : DataW Value} {f : Nat → Option Value} (h : w.ownsMap Tryz.prog 38 heldV b n D) (hf : ∀ x : Nat, f x = lookV D (.int .u32 x)) {K : List Nat} (hK : K.Nodup) (hm : ∀ x, x ∈ K ↔ (f x).isSome = true) :
    (K.map (fun x : Nat => (x : Int))).Perm (u32Keys D) ∧ Maps.size D = K.length := by
  obtain ⟨es, hD, hpw, _⟩ := h.entries (int_keyed Tryz.underlying38)
  obtain ⟨es', hD', hko⟩ := h.keysOf
  obtain rfl : es = es' := by rw [hD] at hD'; simpa using hD'
  subst hD
  have hh := held_entries h
  have hwf : ∀ p ∈ es, ∃ x : Int, p.1 = .int .u32 x ∧ (Lit.int .u32 x).wf = true := fun p hp => by
    obtain ⟨v, hv⟩ := hko p hp
    obtain ⟨x, _, hx, hw⟩ := Maps.keyOf_u32k Tryz.underlying38 hv
    exact ⟨x, hx, hw⟩
  have hp : (K.map (fun x : Nat => (x : Int))).Perm (u32Keys (DataW.map es)) := by
    refine perm_u32Keys_u hpw (fun p hp => by obtain ⟨x, hx, _⟩ := hwf p hp; exact ⟨x, hx⟩) ?_ fun x => ?_
    · exact List.pairwise_map.2 (hK.imp fun h e => h (by exact_mod_cast e))
    · rw [List.mem_map]
      constructor
      · rintro ⟨y, hy, rfl⟩
        have := (hm y).1 hy
        rw [hf, look_some hh] at this
        exact this
      · intro hx
        have hx' := hx
        rw [has_eq, List.any_eq_true] at hx
        obtain ⟨p, hp, hs⟩ := hx
        obtain ⟨z, hz, hw⟩ := hwf p hp
        rw [hz] at hs
        have e : z = x := by simpa [Lit.sameKey] using hs
        subst e
        have hb := wf32 hw
        refine ⟨z.toNat, (hm _).2 ?_, by rw [Int.toNat_of_nonneg hb.1]⟩
        rw [hf, Int.toNat_of_nonneg hb.1, look_some hh]
        exact hx'
  refine ⟨hp, ?_⟩
  have := hp.length_eq
  rw [List.length_map] at this
  rw [size_eq, this]
  simp [u32Keys]

theorem mapsKeys_any (b : Nat) (w : World) : Calls Tryz.prog 38 #[.map (some b)] w fun e w' =>
    e = .returned (.func (.func 57) #[] #[.pointer (some ⟨w.heap.size, 0, none⟩)]) ∧ w' = w.alloc (.cells #[.map (some b)] 65) :=
  (callsIn_wide (n := 9)).1 (K.keys_in Fence.wide 9 trivial rfl (some b) w)

theorem sortsIn9 : K.SortsIn Fence.wide 8 := ⟨fun blk off cap ss W hH hb hl => callsIn_wide.2 (Z.slices_Sort blk off cap ss W hH hb hl), fun p cap W => callsIn_wide.2 (Z.Sort_unil p cap W)⟩

theorem sorted_keys (w : World) (Bm b n : Nat) (f : Nat → Option Value) (hB : w.cell? ⟨Bm, 0, none⟩ = some (.map (some b))) (hown : MapG (u32K Tryz.underlying38) w b n f) (ks : List Nat) (hK : ks.Pairwise (· < ·)) (hm : ∀ x, x ∈ ks ↔ (f x).isSome = true) (hl : ks.length ≤ 1000000) (h32 : ∀ x ∈ ks, x < 4294967296) :
    Calls Tryz.prog 37 #[.func (.func 57) #[] #[.pointer (some ⟨Bm, 0, none⟩)]] w (RowPost w ks) := by
  obtain ⟨D, ho, hf⟩ := hown
  obtain ⟨hp, hsz⟩ := keys_perm ho hf (pw_nodup hK) hm
  have h := K.sorted_in Fence.wide 9 trivial trivial trivial trivial rfl (by omega) sortsIn9 (enters_of Tryz.func25 (by kernel_rfl) rfl) 57 #[.pointer (some ⟨Bm, 0, none⟩)] trivial (enters_of Tryz.func57 (by kernel_rfl) rfl) (fun ss => ss.Perm (u32Keys D)) (Maps.size D) (by rw [hsz]; unfold maxLen; omega) (by rw [hsz]; omega) w
    (K.keys_gives Fence.wide _ trivial rfl (by omega) Bm b n D w (isCells_of hB).lt hB ho)
  refine ((callsIn_wide (n := 9)).1 h).mono ?_
  rintro e w' ⟨v, ss, rfl, hS, hrow, -, hb⟩
  have e1 : (ss.mergeSort fun x y => decide (x ≤ y)) = ks.map (fun x : Nat => (x : Int)) := by
    have h1 := mergeSort_of_perm_u (hS.trans hp.symm)
    have h2 := sorted32_int ks
    have h3 : sorted32 ks = ks := pw_ext (sorted32_lt (pw_nodup hK)) hK fun a => sorted32_mem
    rw [h3] at h2
    exact h1.trans h2
  have e2 : ss.length = ks.length := by
    have := (hS.trans hp.symm).length_eq
    rw [List.length_map] at this
    exact this
  rw [e1, e2, List.map_map] at hrow
  have hO : OwnS u32R w' w.heap.size 38 All v ks := ⟨_, hrow, chunks_num.2 ⟨rfl, h32⟩⟩
  obtain ⟨A, c, rfl, _⟩ := hO.form
  exact ⟨hb, A, c, rfl, hO⟩
end Go.Proofs.YtnlmhnbogleijaaGreatDoor
