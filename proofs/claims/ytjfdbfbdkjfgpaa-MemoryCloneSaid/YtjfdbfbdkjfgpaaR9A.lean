/- The reference's memory: region, rest, initial. -/
import Derived.Test.YtjfdbfbdkjfgpaaR5C
import Derived.Test.YtjfdbfbdkjfgpaaR5D
import Derived.Test.YtjfdbfbdkjfgpaaChgQ
import Derived.IntWalk
namespace Go.Proofs.Ytjfdbfbdkjfgpaa
open Go.RowKit Go.Deco
set_option linter.unusedSimpArgs false
set_option linter.unusedVariables false

/-- Where an address lies, as the reference says it. -/
def RegIs (w : World) (l : List Sec) (a : Nat) (e : Ending) (w' : World) : Prop :=
  Ext w w' ∧ ((e = .returned (.int .i64 (-1)) ∧ findReg (regsOf l) a = none) ∨ (e = .returned (.int .i64 l.length) ∧ findReg (regsOf l) a = some stackReg) ∨
    ∃ (j : Nat) (s : Sec), e = .returned (.int .i64 j) ∧ l[j]? = some s ∧ findReg (regsOf l) a = some (regOf s))

theorem regsOf_sec {l : List Sec} {j : Nat} {s : Sec} (h : l[j]? = some s) : (regsOf l)[j]? = some (regOf s) := by
  have := (List.getElem?_eq_some_iff.1 h).1
  rw [regsOf, List.getElem?_append_left (by simpa using this), List.getElem?_map, h]
  rfl
theorem regsOf_stack (l : List Sec) : (regsOf l)[l.length]? = some stackReg := by
  rw [regsOf, List.getElem?_append_right (by simp)]
  simp
theorem reg_stack {l : List Sec} (h0 : secCheck l = 0) {a : Nat} (h1 : 978944 ≤ a) (h2 : a < 983040) : findReg (regsOf l) a = some stackReg :=
  findReg_of (disj_regs h0) (regsOf_stack l) ((stack_has a).2 ⟨h1, h2⟩)
theorem secTo_eq {l : List Sec} (h0 : secCheck l = 0) {j : Nat} {s : Sec} (h : l[j]? = some s) : secTo s = s.addr + s.data.length := by
  have := (secCheck_zero h h0).2
  unfold secTo
  omega
theorem reg_some {l : List Sec} (h0 : secCheck l = 0) {a j : Nat} (h : findIx l a = some j) : ∃ s, l[j]? = some s ∧ findReg (regsOf l) a = some (regOf s) := by
  rw [findIx, List.findIdx?_eq_some_iff_getElem] at h
  obtain ⟨hlt, hp, _⟩ := h
  refine ⟨l[j], List.getElem?_eq_getElem hlt, findReg_of (disj_regs h0) (regsOf_sec (List.getElem?_eq_getElem hlt)) ((has_iff _ _).2 ?_)⟩
  have := secTo_eq h0 (List.getElem?_eq_getElem hlt)
  simp [this] at hp
  exact hp
theorem reg_none {l : List Sec} (h0 : secCheck l = 0) {a : Nat} (h : findIx l a = none) (hs : ¬ (978944 ≤ a ∧ a < 983040)) : findReg (regsOf l) a = none := by
  refine findReg_miss fun j hj y hy => ?_
  cases hb : y.has a with
  | false => rfl
  | true =>
    exfalso
    unfold regsOf at hy hj
    by_cases hjl : j < (l.map regOf).length
    · rw [List.getElem?_append_left hjl, List.getElem?_map] at hy
      obtain ⟨s, hs', rfl⟩ := Option.map_eq_some_iff.1 hy
      rw [findIx, List.findIdx?_eq_none_iff] at h
      have := h s (List.mem_of_getElem? hs')
      have e := secTo_eq h0 hs'
      have hh : s.addr ≤ a ∧ a < s.addr + s.data.length := (has_iff _ _).1 hb
      simp [e] at this
      omega
    · rw [List.getElem?_append_right (by omega)] at hy
      have e : j - (l.map regOf).length = 0 := by simp at hj hjl ⊢; omega
      rw [e] at hy
      simp at hy
      subst hy
      exact hs ((stack_has a).1 hb)

set_option maxRecDepth 100000 in
set_option maxHeartbeats 1000000 in
theorem region9_any (wo w : World) (ho : Ext wo w) (A : Option Addr) (n c : Nat) (l : List Sec) (hl : Sl secR wo All (.slice A n c) l) (h0 : secCheck l = 0) (cv : Value) (a : Nat) (ha : a < 4294967296) :
    Calls Try.prog 39 #[.agg #[.bool true, .slice A n c, cv], .int .u32 a] w (RegIs w l a) := by
  have hln := hl.len
  obtain ⟨hnc, hcm⟩ := hl.cap
  have HS := hid hl; clear hl
  have HLN := hid hln; clear hln
  have HO := hid ho; clear ho
  have H0 := hid h0
  have HB := hid (fun s hs => by obtain ⟨k, hk, rfl⟩ := List.getElem_of_mem hs; exact (secCheck_zero (List.getElem?_eq_getElem hk) h0).1 : ∀ s ∈ l, s.data.length ≤ 65536)
  clear h0
  by_cases hst : 978944 ≤ a ∧ a < 983040
  · have i1 : decide ((978944 : Int) ≤ (a : Int)) = true := by simp; omega
    have i2 : decide ((a : Int) < 983040) = true := by simp; omega
    have HR := hid (reg_stack H0.out hst.1 hst.2)
    clear hst
    go_enter Try.func39, Try.ntmps39
    go_wp2
    go_ret
    exact ⟨(Ext.refl w).alloc _, .inr (.inl ⟨by rw [← HLN.out]; rfl, HR.out⟩)⟩
  · have HST := hid hst
    have key : ∀ i1 i2 : Bool, decide ((978944 : Int) ≤ (a : Int)) = i1 → decide ((a : Int) < 983040) = i2 → (i1 && i2) = false → Calls Try.prog 39 #[.agg #[.bool true, .slice A n c, cv], .int .u32 a] w (RegIs w l a) := by
      intro i1 i2 h1 h2 h3
      clear hst
      cases i1 <;> cases i2 <;> simp at h3
      all_goals
        go_enter Try.func39, Try.ntmps39
        go_wp2_with fail
        refine (find5_any wo _ (HO.out.alloc _) A n c l HS.out HB.out a ha).mono ?_
        rintro e w1 ⟨h, hx⟩
        have HX := hid (((Ext.refl w).alloc (Obj.cells #[.bool true, .slice A n c, cv] 45)).trans hx); clear hx
        have HH := hid h; clear h
        cases hf : findIx l a with
        | none =>
          have h := HH.out
          rw [hf] at h
          subst h
          have HR := hid (reg_none H0.out hf HST.out)
          clear hf
          go_wp2
          go_ret
          exact ⟨HX.out, .inl ⟨rfl, HR.out⟩⟩
        | some j =>
          have h := HH.out
          rw [hf] at h
          subst h
          have HR := hid (reg_some H0.out hf)
          clear hf
          go_wp2
          go_ret
          obtain ⟨s, h4, h5⟩ := HR.out
          exact ⟨HX.out, .inr (.inr ⟨j, s, rfl, h4, h5⟩)⟩
    refine key _ _ rfl rfl ?_
    rw [← Bool.decide_and]
    simp
    omega

def roomOf (regs : List Reg) (a : Nat) : Nat := match findReg regs a with | none => 0 | some r => r.from_ + r.data.length - a
def iniOf (regs : List Reg) (a : Nat) : Nat := match findReg regs a with | none => 0 | some r => r.data.getD (a - r.from_) 0

set_option maxRecDepth 100000 in
set_option maxHeartbeats 1000000 in
theorem rest9_any (wo w : World) (ho : Ext wo w) (A : Option Addr) (n c : Nat) (l : List Sec) (hl : Sl secR wo All (.slice A n c) l) (h0 : secCheck l = 0) (CA : Option Addr) (cm cd : Nat) (a : Nat) (ha : a < 4294967296) :
    Calls Try.prog 38 #[.agg #[.bool true, .slice A n c, .slice CA cm cd], .int .u32 a] w (IntIs w (roomOf (regsOf l) a)) := by
  have hln := hl.len
  obtain ⟨hnc, hcm⟩ := hl.cap
  obtain ⟨z, hz⟩ : ∃ z, roomOf (regsOf l) a = z := ⟨_, rfl⟩
  rw [hz]
  have HZ := hid hz; clear hz
  have HS := hid hl; clear hl
  have HLN := hid hln; clear hln
  have HO := hid ho; clear ho
  have H0 := hid h0; clear h0
  go_enter Try.func38, Try.ntmps38
  go_wp2_with fail
  refine (region9_any wo _ (HO.out.alloc _) A n c l HS.out H0.out (.slice CA cm cd) a ha).mono ?_
  rintro e w1 ⟨hx, ⟨rfl, hf⟩ | ⟨rfl, hf⟩ | ⟨j, s, rfl, hj, hf⟩⟩
  · have HX := hid (((Ext.refl w).alloc (Obj.cells #[.bool true, .slice A n c, .slice CA cm cd] 45)).trans hx); clear hx
    have e : z = 0 := by rw [← HZ.out, roomOf, hf]
    subst e
    clear hf
    go_wp2
    go_ret
    exact ⟨rfl, HX.out⟩
  · have b0 := hx.cell (p := ⟨w.heap.size, 0, none⟩) (v := .bool true) (by simp)
    have b1 := hx.cell (p := ⟨w.heap.size, 1, none⟩) (v := .slice A n c) (by simp)
    have b2 := hx.cell (p := ⟨w.heap.size, 2, none⟩) (v := .slice CA cm cd) (by simp)
    have HX := hid (((Ext.refl w).alloc (Obj.cells #[.bool true, .slice A n c, .slice CA cm cd] 45)).trans hx); clear hx
    have hs := (stack_has a).1 (findReg_index hf).choose_spec.2
    have e : z = 983040 - a := by
      rw [← HZ.out, roomOf, hf]
      show stackReg.from_ + stackReg.data.length - a = _
      have h1 : stackReg.data.length = 4096 := List.length_replicate
      have h2 : stackReg.from_ = 978944 := rfl
      omega
    have e2 : (z : Int) = 983040 - (a : Int) := by omega
    have HE2 := hid e2
    have ha1 : (a : Int) ≤ 983040 := by omega
    have HEQ := hid HLN.out
    rw [← HLN.out]
    clear hf hs e e2
    go_wp2
    go_ret
    exact ⟨ret_int (by rw [HE2.out]; try rfl), HX.out⟩
  · have b1 := hx.cell (p := ⟨w.heap.size, 1, none⟩) (v := .slice A n c) (by simp)
    have HX := hid (((Ext.refl w).alloc (Obj.cells #[.bool true, .slice A n c, .slice CA cm cd] 45)).trans hx)
    obtain ⟨hh1, hh2⟩ : s.addr ≤ a ∧ a < s.addr + s.data.length := findReg_has hf
    have hsb := secCheck_zero hj H0.out
    have e : z = s.addr + s.data.length - a := by rw [← HZ.out, roomOf, hf]; rfl
    have hjn := (List.getElem?_eq_some_iff.1 hj).1
    rw [← HLN.out] at hjn
    obtain ⟨b, off, dA, dc, rfl, -, hdl, hal, hnl, c0, c1, c2, c3, c4⟩ := HS.out.sec_at hj
    have hww := HO.out.trans HX.out
    have c1 := hww.cell c1
    have c2 := hww.cell c2
    have hjl : ((j : Int) == (n : Int)) = false := by simp; omega
    have j0 : (0 : Int) ≤ (j : Int) := by omega
    have j1 : (j : Int) < (n : Int) := by omega
    have e2 : (z : Int) = (s.data.length : Int) - ((a : Int) - (s.addr : Int)) := by omega
    have HE2 := hid e2
    have w1' : IntKind.u32.wrap ((a : Int) - (s.addr : Int)) = (a : Int) - (s.addr : Int) := IntWalk.u32_in _ (by omega)
    have w2' : IntKind.i64.wrap ((a : Int) - (s.addr : Int)) = (a : Int) - (s.addr : Int) := IntWalk.i64_in _ (by omega)
    have w3' : IntKind.i64.wrap ((s.data.length : Int) - ((a : Int) - (s.addr : Int))) = (s.data.length : Int) - ((a : Int) - (s.addr : Int)) := IntWalk.i64_in _ (by omega)
    clear hf hj e e2 hx hww c0 c3 c4
    go_wp2_with fail
    go_quiet (fail)
    go_wp2
    go_ret
    exact ⟨ret_int (by rw [HE2.out]), HX.out.drewN _⟩
end Go.Proofs.Ytjfdbfbdkjfgpaa
