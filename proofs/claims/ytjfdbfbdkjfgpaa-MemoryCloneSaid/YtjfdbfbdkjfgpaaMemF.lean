/- The walks of the package 'memory': Fetch, Dump. -/
import Derived.Test.YtjfdbfbdkjfgpaaMemC
namespace Go.Proofs.Ytjfdbfbdkjfgpaa
open Go.RowKit Go.Deco Go.Maps

/-- Bytes and an error number. -/
def BytesPost (w : World) (x : List Nat × Nat) (e : Ending) (w' : World) : Prop :=
  Ext w w' ∧ ∃ v, e = .returned (.tuple #[v, .int .i64 x.2]) ∧ Sl u8R w' All v x.1

def fetchOf (regs : List Reg) (M : Nat → Option Nat) (a : Nat) : List Nat × Nat :=
  match findReg regs a with
  | none => ([], 11)
  | some r => if r.ex = true then (presentOf r M a 6, 0) else ([], 12)
def dumpOf (regs : List Reg) (M : Nat → Option Nat) (a : Nat) (q : Int) : List Nat × Nat :=
  if q < 0 then ([], 2) else if q = 0 then ([], 0) else match mappedReg regs a q.toNat with
  | none => ([], 11)
  | some r => (presentOf r M a q.toNat, 0)

set_option maxRecDepth 100000 in
set_option maxHeartbeats 1000000 in
theorem fetch_any (w : World) (mb bm n : Nat) (regs : List Reg) (M : Nat → Option Nat) (hm : Mem w mb bm regs M n) (a : Nat) (ha : a < 4294967296) :
    Calls Try.prog 21 #[.pointer (some ⟨mb, 0, none⟩), .int .u32 a] w (BytesPost w (fetchOf regs M a)) := by
  have HM := hid hm; clear hm
  obtain ⟨x, hx⟩ : ∃ x, fetchOf regs M a = x := ⟨_, rfl⟩
  rw [hx]
  have HX := hid hx; clear hx
  go_enter Try.func21, Try.ntmps21
  go_wp2_with fail
  refine (made_any _ mb bm n regs M HM.out).mono ?_
  rintro e w' ⟨rfl, rfl⟩
  go_wp2_with fail
  refine (find_any w w (Ext.refl w) mb bm n regs M HM.out a ha).mono ?_
  rintro e w1 ⟨hx1, hp⟩
  have HE := hid hx1; clear hx1
  obtain ⟨o, ho⟩ : ∃ o, findReg regs a = o := ⟨_, rfl⟩
  rw [ho] at hp
  cases o with
  | none =>
    subst hp
    have HO := hid ho; clear ho
    go_wp2
    go_ret2
    have := HX.out
    rw [fetchOf, HO.out] at this
    subst this
    exact ⟨HE.out.alloc _, _, rfl, Sl.nil⟩
  | some r =>
    obtain ⟨dA, dc, rfl, hd, hs1, hs2⟩ := hp
    have HD := hid hd; clear hd
    obtain ⟨hr1, hr2⟩ := findReg_has ho
    have HO := hid ho; clear ho
    obtain ⟨d, rfl⟩ : ∃ d, a = r.from_ + d := ⟨a - r.from_, by omega⟩
    obtain ⟨wr, hwr⟩ : ∃ b, r.wr = b := ⟨_, rfl⟩
    obtain ⟨ex, hex⟩ : ∃ b, r.ex = b := ⟨_, rfl⟩
    have HP := hid (present_any w (w1.alloc (Obj.cells #[Value.int IntKind.u64 r.from_, .slice dA r.data.length dc, Value.bool r.wr, Value.bool r.ex] 74)) (HE.out.alloc _) mb bm n regs M HM.out r dA dc HD.out hs1 hs2 d 6 (by omega) (by omega))
    rw [hwr, hex] at HP ⊢
    have HEX := hid hex; clear hex hwr
    have HX2 := hid ((Ext.refl w1).alloc (Obj.cells #[Value.int IntKind.u64 r.from_, .slice dA r.data.length dc, Value.bool wr, Value.bool ex] 74))
    cases ex with
    | false =>
      cases wr
      all_goals
        go_wp2
        go_ret2
        have := HX.out
        rw [fetchOf, HO.out] at this
        simp only [HEX.out, Bool.false_eq_true, if_false] at this
        subst this
        exact ⟨HE.out.alloc _, _, rfl, Sl.nil⟩
    | true =>
      cases wr
      all_goals
        go_wp2_with fail
        refine HP.out.mono ?_
        rintro e w2 ⟨A, c, rfl, hown, hx2⟩
        have HW := hid hown.sl
        have HX3 := hid (HE.out.trans (HX2.out.trans hx2))
        clear hown hx2
        have := HX.out
        rw [fetchOf, HO.out] at this
        simp only [HEX.out, if_true] at this
        generalize presentOf r M (r.from_ + d) 6 = L at HW this ⊢
        subst this
        go_wp2
        go_ret2
        exact ⟨HX3.out, .slice A L.length c, rfl, HW.out⟩

set_option maxRecDepth 100000 in
set_option maxHeartbeats 1000000 in
theorem dump_any (w : World) (mb bm n : Nat) (regs : List Reg) (M : Nat → Option Nat) (hm : Mem w mb bm regs M n) (a : Nat) (ha : a < 4294967296) (q : Int) (hq1 : -9223372036854775808 ≤ q) (hq2 : q ≤ 9223372036854775807) :
    Calls Try.prog 23 #[.pointer (some ⟨mb, 0, none⟩), .int .u32 a, .int .i64 q] w (BytesPost w (dumpOf regs M a q)) := by
  have HM := hid hm; clear hm
  obtain ⟨x, hx⟩ : ∃ x, dumpOf regs M a q = x := ⟨_, rfl⟩
  rw [hx]
  have HX := hid hx; clear hx
  go_enter Try.func23, Try.ntmps23
  go_wp2_with fail
  refine (made_any _ mb bm n regs M HM.out).mono ?_
  rintro e w' ⟨rfl, rfl⟩
  by_cases h0 : q < 0
  · go_wp2
    go_ret2
    have := HX.out
    rw [dumpOf, if_pos h0] at this
    subst this
    exact ⟨Ext.refl w, _, rfl, Sl.nil⟩
  · by_cases h1 : q = 0
    · subst h1
      go_wp2
      go_ret2
      have := HX.out
      rw [dumpOf, if_neg (by omega), if_pos rfl] at this
      subst this
      exact ⟨Ext.refl w, _, rfl, Sl.nil⟩
    · obtain ⟨k, rfl⟩ : ∃ k : Nat, q = k := ⟨q.toNat, by omega⟩
      have hk : ¬ (k = 0) := by omega
      go_wp2_with fail
      refine (mapped_any w w (Ext.refl w) mb bm n regs M HM.out a ha k (by omega)).mono ?_
      rintro e w1 ⟨hx1, hp⟩
      have HE := hid hx1; clear hx1
      obtain ⟨o, ho⟩ : ∃ o, mappedReg regs a k = o := ⟨_, rfl⟩
      rw [ho] at hp
      cases o with
      | none =>
        subst hp
        have HO := hid ho; clear ho
        go_wp2
        go_ret2
        have := HX.out
        rw [dumpOf, if_neg (by omega), if_neg h1, Int.toNat_natCast, HO.out] at this
        subst this
        exact ⟨HE.out.alloc _, _, rfl, Sl.nil⟩
      | some r =>
        obtain ⟨dA, dc, rfl, hd, hs1, hs2⟩ := hp
        have HD := hid hd; clear hd
        obtain ⟨hfr, hroom⟩ := mappedReg_some ho
        obtain ⟨hr1, hr2⟩ := findReg_has hfr
        have HO := hid ho; clear ho hfr
        obtain ⟨d, rfl⟩ : ∃ d, a = r.from_ + d := ⟨a - r.from_, by omega⟩
        go_wp2_with fail
        refine (present_any w _ (HE.out.alloc _) mb bm n regs M HM.out r dA dc HD.out hs1 hs2 d k (by omega) (by omega)).mono ?_
        rintro e w2 ⟨A, c, rfl, hown, hx2⟩
        have HW := hid hown.sl
        have HX3 := hid (HE.out.trans (((Ext.refl w1).alloc _).trans hx2))
        clear hown hx2
        have := HX.out
        rw [dumpOf, if_neg (by omega), if_neg h1, Int.toNat_natCast, HO.out] at this
        dsimp only at this
        generalize presentOf r M (r.from_ + d) k = L at HW this ⊢
        subst this
        go_wp2
        go_ret2
        exact ⟨HX3.out, .slice A L.length c, rfl, HW.out⟩
end Go.Proofs.Ytjfdbfbdkjfgpaa
