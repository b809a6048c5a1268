/- The reference's memory: initial, present, bytesFrom. -/
import Derived.Test.YtjfdbfbdkjfgpaaR9A
import Derived.BigQuiet
namespace Go.Proofs.Ytjfdbfbdkjfgpaa
open Go.RowKit Go.Deco
set_option linter.unusedSimpArgs false
set_option linter.unusedVariables false

def ByteIs (w : World) (x : Nat) (e : Ending) (w' : World) : Prop := e = .returned (.int .u8 x) ∧ Ext w w'

set_option maxRecDepth 100000 in
set_option maxHeartbeats 1000000 in
theorem initial9_any (wo w : World) (ho : Ext wo w) (A : Option Addr) (n c : Nat) (l : List Sec) (hl : Sl secR wo All (.slice A n c) l) (h0 : secCheck l = 0) (CA : Option Addr) (cm cd : Nat) (a : Nat) (ha : a < 4294967296) :
    Calls Try.prog 44 #[.agg #[.bool true, .slice A n c, .slice CA cm cd], .int .u32 a] w (ByteIs w (iniOf (regsOf l) a)) := by
  have hln := hl.len
  obtain ⟨hnc, hcm⟩ := hl.cap
  obtain ⟨z, hz⟩ : ∃ z, iniOf (regsOf l) a = z := ⟨_, rfl⟩
  rw [hz]
  have HZ := hid hz; clear hz
  have HS := hid hl; clear hl
  have HLN := hid hln; clear hln
  have HO := hid ho; clear ho
  have H0 := hid h0; clear h0
  go_enter Try.func44, Try.ntmps44
  go_wp2_with fail
  refine (region9_any wo _ (HO.out.alloc _) A n c l HS.out H0.out (.slice CA cm cd) a ha).mono ?_
  rintro e w1 ⟨hx, ⟨rfl, hf⟩ | ⟨rfl, hf⟩ | ⟨j, s, rfl, hj, hf⟩⟩
  · have b1 := hx.cell (p := ⟨w.heap.size, 1, none⟩) (v := .slice A n c) (by simp)
    have HX := hid (((Ext.refl w).alloc (Obj.cells #[.bool true, .slice A n c, .slice CA cm cd] 45)).trans hx); clear hx
    have e : z = 0 := by rw [← HZ.out, iniOf, hf]
    subst e
    clear hf
    go_wp2
    go_ret
    exact ⟨rfl, HX.out⟩
  · have b1 := hx.cell (p := ⟨w.heap.size, 1, none⟩) (v := .slice A n c) (by simp)
    have HX := hid (((Ext.refl w).alloc (Obj.cells #[.bool true, .slice A n c, .slice CA cm cd] 45)).trans hx); clear hx
    have e : z = 0 := by
      rw [← HZ.out, iniOf, hf]
      show (List.replicate 4096 0).getD _ 0 = 0
      rw [List.getD_eq_getElem?_getD, List.getElem?_replicate]
      split <;> rfl
    subst e
    rw [← HLN.out]
    have hnn : ((n : Int) == (n : Int)) = true := by simp
    clear hf
    go_wp2
    go_ret
    exact ⟨rfl, HX.out⟩
  · have b1 := hx.cell (p := ⟨w.heap.size, 1, none⟩) (v := .slice A n c) (by simp)
    have HX := hid (((Ext.refl w).alloc (Obj.cells #[.bool true, .slice A n c, .slice CA cm cd] 45)).trans hx)
    obtain ⟨hh1, hh2⟩ : s.addr ≤ a ∧ a < s.addr + s.data.length := findReg_has hf
    have hsb := secCheck_zero hj H0.out
    have e : z = s.data.getD (a - s.addr) 0 := by rw [← HZ.out, iniOf, hf]; rfl
    have hjn := (List.getElem?_eq_some_iff.1 hj).1
    rw [← HLN.out] at hjn
    obtain ⟨b, off, dA, dc, rfl, hd, hdl, hal, hnl, c0, c1, c2, c3, c4⟩ := HS.out.sec_at hj
    obtain ⟨k, hk⟩ : ∃ k, a - s.addr = k := ⟨_, rfl⟩
    obtain ⟨y, hy⟩ : ∃ y, s.data[k]? = some y := ⟨_, List.getElem?_eq_getElem (by omega)⟩
    obtain ⟨db, doff, rfl, dcell, -⟩ := hd.num_at hy
    have ez : z = y := by rw [e, hk, List.getD_eq_getElem?_getD, hy]; rfl
    subst ez
    have hww := HO.out.trans HX.out
    have c1 := hww.cell c1
    have c2 := hww.cell c2
    have dcell := hww.cell dcell
    have hjl : ((j : Int) == (n : Int)) = false := by simp; omega
    have j0 : (0 : Int) ≤ (j : Int) := by omega
    have j1 : (j : Int) < (n : Int) := by omega
    have k0 : (0 : Int) ≤ (k : Int) := by omega
    have k1 : (k : Int) < (s.data.length : Int) := by omega
    have e2 : (a : Int) - (s.addr : Int) = (k : Int) := by omega
    have w1' : IntKind.u32.wrap (k : Int) = (k : Int) := IntWalk.u32_in _ (by omega)
    have w2' : IntKind.i64.wrap (k : Int) = (k : Int) := IntWalk.i64_in _ (by omega)
    clear hf hj e hx hww c0 c3 c4 hd hy hk
    go_wp2_with fail
    go_quiet (fail)
    go_wp2
    go_ret
    exact ⟨rfl, HX.out.drewN _⟩

/-- A byte that was written. -/
def cellR : Rep (Nat × Nat) where
  size := 2
  pos := by omega
  rel _ _ cs x := cs = [.int .u32 x.1, .int .u8 x.2] ∧ x.1 < 4294967296 ∧ x.2 < 256
  keep _ h := h
  mono _ h := h
  len h := by rw [h.1]; rfl
  one h u hu := by
    rw [h.1] at hu
    simp at hu
    rcases hu with rfl | rfl <;> rfl
theorem Sl_cell_at {w : World} {S : Nat → Prop} {A : Option Addr} {n c k : Nat} {l : List (Nat × Nat)} {s : Nat × Nat} (h : Sl cellR w S (.slice A n c) l) (hk : l[k]? = some s) :
    ∃ b off, A = some ⟨b, off, none⟩ ∧ w.cell? ⟨b, off + k * 2, none⟩ = some (.int .u32 s.1) ∧ w.cell? ⟨b, off + k * 2 + 1, none⟩ = some (.int .u8 s.2) ∧ s.1 < 4294967296 ∧ s.2 < 256 := by
  obtain ⟨b, off, cs, hA, ⟨hcs, h1, h2⟩, hc⟩ := h.get hk
  subst hcs
  exact ⟨b, off, hA, by simpa [cellR] using hc 0 _ rfl, by simpa [cellR, Nat.add_assoc] using hc 1 _ rfl, h1, h2⟩
def lookIn : List (Nat × Nat) → Nat → Option Nat
  | [], _ => none
  | p :: r, a => if p.1 = a then some p.2 else lookIn r a
theorem lookIn_hit : ∀ {cs : List (Nat × Nat)} {a k b : Nat}, (∀ j, j < k → ∀ y, cs[j]? = some y → y.1 ≠ a) → cs[k]? = some (a, b) → lookIn cs a = some b
  | [], _, _, _, _, h => by simp at h
  | p :: r, a, 0, b, _, h => by
    simp at h
    subst h
    simp [lookIn]
  | p :: r, a, k + 1, b, hn, h => by
    rw [lookIn, if_neg (hn 0 (by omega) p rfl)]
    exact lookIn_hit (k := k) (fun j hj y hy => hn (j + 1) (by omega) y (by simpa using hy)) (by simpa using h)
theorem lookIn_miss : ∀ {cs : List (Nat × Nat)} {a : Nat}, (∀ j, j < cs.length → ∀ y, cs[j]? = some y → y.1 ≠ a) → lookIn cs a = none
  | [], _, _ => rfl
  | p :: r, a, hn => by
    rw [lookIn, if_neg (hn 0 (by simp) p rfl)]
    exact lookIn_miss fun j hj y hy => hn (j + 1) (by simpa using hj) y (by simpa using hy)
def preOf (regs : List Reg) (M : Nat → Option Nat) (a : Nat) : Nat := (M a).getD (iniOf regs a)

set_option maxRecDepth 100000 in
set_option maxHeartbeats 1000000 in
theorem present9_any (wo w : World) (ho : Ext wo w) (A : Option Addr) (n c : Nat) (l : List Sec) (hl : Sl secR wo All (.slice A n c) l) (h0 : secCheck l = 0) (CA : Option Addr) (cm cd : Nat) (cs : List (Nat × Nat)) (hc : Sl cellR wo All (.slice CA cm cd) cs)
    (a : Nat) (ha : a < 4294967296) : Calls Try.prog 60 #[.agg #[.bool true, .slice A n c, .slice CA cm cd], .int .u32 a] w (ByteIs w (preOf (regsOf l) (lookIn cs) a)) := by
  have hcl := hc.len
  obtain ⟨hmc, hdm⟩ := hc.cap
  obtain ⟨z, hz⟩ : ∃ z, preOf (regsOf l) (lookIn cs) a = z := ⟨_, rfl⟩
  rw [hz]
  have HZ := hid hz; clear hz
  have HS := hid hl; clear hl
  have HC := hid hc; clear hc
  have HCL := hid hcl; clear hcl
  have HO := hid ho; clear ho
  have H0 := hid h0; clear h0
  obtain ⟨W0, hW0⟩ : ∃ W0, w.alloc (Obj.cells #[.bool true, .slice A n c, .slice CA cm cd] 45) = W0 := ⟨_, rfl⟩
  have hE : Ext w W0 := by rw [← hW0]; exact (Ext.refl w).alloc _
  have b0 : W0.cell? ⟨w.heap.size, 0, none⟩ = some (.bool true) := by rw [← hW0]; simp
  have b1 : W0.cell? ⟨w.heap.size, 1, none⟩ = some (.slice A n c) := by rw [← hW0]; simp
  have b2 : W0.cell? ⟨w.heap.size, 2, none⟩ = some (.slice CA cm cd) := by rw [← hW0]; simp
  have HE := hid hE; clear hE
  go_enter Try.func60, Try.ntmps60
  go_wp2
  go_loop [5] (fun i => ∃ k : Nat, k ≤ cm ∧ i = .int .i64 k ∧ Hid (∀ j, j < k → ∀ y, cs[j]? = some y → y.1 ≠ a)) (fun i => cm - (intOf i).toNat)
  case atStart => exact ⟨0, by omega, rfl, hid (by omega)⟩
  case round =>
    obtain ⟨k, hk, rfl, hn⟩ := hrel
    by_cases h1 : k < cm
    · obtain ⟨⟨x, y⟩, hx⟩ : ∃ s, cs[k]? = some s := ⟨_, List.getElem?_eq_getElem (by have := HCL.out; omega)⟩
      obtain ⟨b, off, rfl, c0, c1, -, -⟩ := Sl_cell_at HC.out hx
      have c0 := (HO.out.trans HE.out).cell c0
      have c1 := (HO.out.trans HE.out).cell c1
      have HX := hid hx; clear hx
      by_cases h2 : x = a
      · subst h2
        have hee : ((x : Int) == (x : Int)) = true := by simp
        have e : z = y := by rw [← HZ.out, preOf, lookIn_hit hn.out HX.out]; rfl
        subst e
        go_wp2
        go_ret
        exact ⟨rfl, HE.out⟩
      · have hee : ((x : Int) == (a : Int)) = false := by simp; omega
        go_wp2
        go_round
        case rel =>
          refine ⟨k + 1, by omega, by go_num, hid fun j hj s hs => ?_⟩
          rcases Nat.lt_or_ge j k with h | h
          · exact hn.out j h s hs
          · obtain rfl : j = k := by omega
            have := HX.out.symm.trans hs
            injection this with this
            rw [← this]; exact h2
        case measure => simp [intOf]; omega
    · have e : z = iniOf (regsOf l) a := by rw [← HZ.out, preOf, lookIn_miss (fun j hj => hn.out j (by have := HCL.out; omega))]; rfl
      subst e
      clear hn hW0
      go_wp2_with fail
      refine (initial9_any wo _ (HO.out.trans HE.out) A n c l HS.out H0.out CA cm cd a ha).mono ?_
      rintro e w3 ⟨rfl, hx3⟩
      have HX3 := hid (HE.out.trans hx3); clear hx3
      go_wp2
      go_ret
      exact ⟨rfl, HX3.out⟩

def BytesFrom (w : World) (l : List Nat) (e : Ending) (w' : World) : Prop := Ext w w' ∧ ∃ A c, e = .returned (.slice A l.length c) ∧ Sl u8R w' (fun b => w.heap.size ≤ b) (.slice A l.length c) l

theorem preOf_lt {l : List Sec} {cs : List (Nat × Nat)} (hs : ∀ s ∈ l, ∀ x ∈ s.data, x < 256) (hc : ∀ p ∈ cs, p.2 < 256) (a : Nat) : preOf (regsOf l) (lookIn cs) a < 256 := by
  have h1 : ∀ cs : List (Nat × Nat), (∀ p ∈ cs, p.2 < 256) → ∀ x, lookIn cs a = some x → x < 256 := by
    intro cs
    induction cs with
    | nil => intro _ x h; simp [lookIn] at h
    | cons p r ih =>
      intro hc x h
      rw [lookIn] at h
      split at h
      · injection h with h
        rw [← h]
        exact hc p (by simp)
      · exact ih (fun q hq => hc q (by simp [hq])) x h
  unfold preOf
  cases hl : lookIn cs a with
  | some x => exact h1 cs hc x hl
  | none =>
    simp only [Option.getD_none]
    unfold iniOf
    cases hf : findReg (regsOf l) a with
    | none => simp
    | some r =>
      simp only
      rw [List.getD_eq_getElem?_getD]
      cases hg : r.data[a - r.from_]? with
      | none => simp
      | some x =>
        have hm : r ∈ regsOf l := List.mem_of_find?_eq_some hf
        have hx := List.mem_of_getElem? hg
        simp only [Option.getD_some]
        rw [regsOf, List.mem_append] at hm
        rcases hm with hm | hm
        · obtain ⟨s, h1, rfl⟩ := List.mem_map.1 hm
          exact hs s h1 x hx
        · simp at hm
          subst hm
          have : x = 0 := by
            have hx' : x ∈ List.replicate 4096 0 := hx
            exact (List.mem_replicate.1 hx').2
          omega
end Go.Proofs.Ytjfdbfbdkjfgpaa
