/- funcs.name. -/
import Derived.Test.YtnlmhnbogleijaaGreatDoorSymm
import Derived.Test.YtnlmhnbogleijaaGreatDoorHex
namespace Go.Proofs.YtnlmhnbogleijaaGreatDoor
open Go Go.RowKit Go.Deco
set_option linter.unusedSimpArgs false
set_option linter.unusedVariables false

/-- The name of the function at an address. -/
def fnName (l : List Sy) (a : Nat) : ByteArray := match atSy l a with | some s => s.name | none => strOf (102 :: 95 :: hexD a)
set_option maxRecDepth 100000 in
set_option maxHeartbeats 1000000 in
theorem fname_any (w : World) (ht : TabAt w) (A : Option Addr) (n c : Nat) (l : List Sy) (hl : Sl symR w All (.slice A n c) l) (a : Nat) (ha : a < 4294967296) :
    Calls Tryz.prog 18 #[.slice A n c, .int .u32 a] w fun e w' => e = .returned (.string (fnName l a)) ∧ Ext w w' := by
  have HA := hid (syat_any w A n c l hl a)
  have HT := hid ht
  have hl9 := hexN_len 8 a
  have hz := strOf_size (hexD a)
  have hz2 : (strOf (hexD a)).size ≤ 9 := by rw [hz]; exact hl9
  have e1 : IntKind.u64.wrap (a : Int) = a := IntWalk.u64_in _ (by omega)
  clear hl9 hz hl ht
  obtain ⟨o, ho⟩ : ∃ o, atSy l a = o := ⟨_, rfl⟩
  rw [ho] at HA
  have HO := hid ho
  clear ho
  go_enter Tryz.func18, Tryz.ntmps18
  go_wp2_with fail
  refine (HA.out).mono ?_
  rintro e w1 ⟨hx1, rfl⟩
  have HX1 := hid hx1
  clear hx1
  cases o with
  | some s =>
    simp only [Option.getD_some, Option.isSome_some, syVal]
    go_wp2
    go_ret
    have hfn : fnName l a = s.name := by unfold fnName; rw [HO.out]
    rw [hfn]
    exact ⟨rfl, HX1.out.alloc _⟩
  | none =>
    simp only [Option.getD_none, Option.isSome_none, syVal, Sy.zero]
    have HS := hid (fun W (h : Ext w W) => sfu_any W (HT.out.ext h) a ha)
    go_wp2_with fail
    refine (HS.out _ (HX1.out.alloc _)).mono ?_
    rintro e w2 ⟨rfl, hx2⟩
    have HX2 := hid ((HX1.out.alloc _).trans hx2)
    clear hx2
    go_wp2
    go_ret
    refine ⟨?_, HX2.out⟩
    unfold fnName
    rw [HO.out]
    show Ending.returned (.string (strOf [102, 95] ++ strOf (hexD a))) = _
    rw [strOf_app]
    rfl
end Go.Proofs.YtnlmhnbogleijaaGreatDoor
