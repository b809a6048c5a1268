/- The law SymbolFinds. -/
import Derived.Test.YtekilcnkinmakaaDoorSymY
import Derived.Test.YtekilcnkinmakaaDoorR6B
namespace Go.Proofs.YtekilcnkinmakaaDoor
open Go.RowKit Go.Deco
set_option linter.unusedSimpArgs false
set_option linter.unusedVariables false

set_option maxRecDepth 100000 in
set_option maxHeartbeats 4000000 in
theorem fin_any (w : World) (ht : TabAt w) (A : Option Addr) (n c : Nat) (l : List Sy) (hl : Sl symR w All (.slice A n c) l) (nm : ByteArray) (hnm : nm.size ≤ maxLen) (a : Nat) (ha : a < 4294967296) :
    Calls Tryd.prog 8 #[.slice A n c, .string nm, .int .u32 a] w (OneBool w true) := by
  have HL := hid hl
  have HT := hid ht
  clear hl ht hnm
  go_enter Tryd.func8, Tryd.ntmps8
  go_wp2_with fail
  refine (few_any w A n c l HL.out).mono ?_
  rintro e w' ⟨⟨b, rfl, hb⟩, rfl⟩
  cases b
  case' false =>
    clear hb
    go_wp2_with fail
    refine (example_any _ HT.out).mono ?_
    rintro e w1 ⟨rfl, hx⟩
    have HX := hid hx; clear hx
    go_wp2
    go_ret
    exact ⟨rfl, HX.out⟩
  have hn40 : n ≤ 40 := (hb rfl).1
  have HSZ := hid (hb rfl).2
  clear hb
  obtain ⟨s1, b1, hq1⟩ : ∃ s b, (findSy l nm.data.toList).getD Sy.zero = s ∧ (findSy l nm.data.toList).isSome = b := ⟨_, _, rfl, rfl⟩
  obtain ⟨s2, b2, hq2⟩ : ∃ s b, (atSy l a).getD Sy.zero = s ∧ (atSy l a).isSome = b := ⟨_, _, rfl, rfl⟩
  obtain ⟨s3, b3, d3, hq3⟩ : ∃ s b d, (nearSy l a).getD Sy.zero = s ∧ (nearSy l a).isSome = b ∧ distOf (nearSy l a) a = d := ⟨_, _, _, rfl, rfl, rfl⟩
  have HQ1 := hid hq1
  have HQ2 := hid hq2
  have HQ3 := hid hq3
  clear hq1 hq2 hq3
  obtain ⟨V0, hV0⟩ : ∃ V, V = w := ⟨_, rfl⟩
  have HE0 : Hid (Ext w V0) := hid (by rw [hV0]; exact Ext.refl w)
  obtain rfl := hV0
  have hV0 : True := trivial
  go_wp2_with fail
  clear hV0
  refine (syfind_any _ A n c l (HL.out.ext HE0.out) nm).mono ?_
  rintro e w1 ⟨hx1, rfl⟩
  rw [HQ1.out.1, HQ1.out.2]
  simp only [syVal]
  have hp1 := SyAt.new w1 s1 27
  obtain ⟨V1, hV1⟩ : ∃ V, w1.alloc (.cells #[.string s1.name, .int .u32 s1.addr, .int .i64 s1.kind] 27) = V := ⟨_, rfl⟩
  rw [hV1] at hp1
  have hE1 : Ext V0 V1 := hx1.trans (by rw [← hV1]; exact (Ext.refl w1).alloc _)
  have HE1 := hid (HE0.out.trans hE1)
  have HD1 := hid hE1
  have HP1 := hid hp1
  clear hx1 hE1 hp1
  go_wp2_with fail
  clear hV1
  refine (find6_any _ A n c l (HL.out.ext HE1.out) nm).mono ?_
  rintro e w2 ⟨hx2, rfl⟩
  rw [HQ1.out.1, HQ1.out.2]
  simp only [syVal]
  have hp2 := SyAt.new w2 s1 27
  obtain ⟨V2, hV2⟩ : ∃ V, w2.alloc (.cells #[.string s1.name, .int .u32 s1.addr, .int .i64 s1.kind] 27) = V := ⟨_, rfl⟩
  rw [hV2] at hp2
  have hE2 : Ext V1 V2 := hx2.trans (by rw [← hV2]; exact (Ext.refl w2).alloc _)
  have HE2 := hid (HE1.out.trans hE2)
  have HD2 := hid hE2
  have HP2 := hid hp2
  clear hx2 hE2 hp2
  go_wp2_with fail
  clear hV2
  refine (syat_any _ A n c l (HL.out.ext HE2.out) a).mono ?_
  rintro e w3 ⟨hx3, rfl⟩
  rw [HQ2.out.1, HQ2.out.2]
  simp only [syVal]
  have hp3 := SyAt.new w3 s2 27
  obtain ⟨V3, hV3⟩ : ∃ V, w3.alloc (.cells #[.string s2.name, .int .u32 s2.addr, .int .i64 s2.kind] 27) = V := ⟨_, rfl⟩
  rw [hV3] at hp3
  have hE3 : Ext V2 V3 := hx3.trans (by rw [← hV3]; exact (Ext.refl w3).alloc _)
  have HE3 := hid (HE2.out.trans hE3)
  have HD3 := hid hE3
  have HP3 := hid hp3
  clear hx3 hE3 hp3
  go_wp2_with fail
  clear hV3
  refine (at6_any _ A n c l (HL.out.ext HE3.out) a).mono ?_
  rintro e w4 ⟨hx4, rfl⟩
  rw [HQ2.out.1, HQ2.out.2]
  simp only [syVal]
  have hp4 := SyAt.new w4 s2 27
  obtain ⟨V4, hV4⟩ : ∃ V, w4.alloc (.cells #[.string s2.name, .int .u32 s2.addr, .int .i64 s2.kind] 27) = V := ⟨_, rfl⟩
  rw [hV4] at hp4
  have hE4 : Ext V3 V4 := hx4.trans (by rw [← hV4]; exact (Ext.refl w4).alloc _)
  have HE4 := hid (HE3.out.trans hE4)
  have HD4 := hid hE4
  have HP4 := hid hp4
  clear hx4 hE4 hp4
  go_wp2_with fail
  clear hV4
  refine (synear_any _ A n c l (HL.out.ext HE4.out) a ha).mono ?_
  rintro e w5 ⟨hx5, rfl⟩
  rw [HQ3.out.1, HQ3.out.2.1, HQ3.out.2.2]
  simp only [syVal]
  have hp5 := SyAt.new w5 s3 27
  obtain ⟨V5, hV5⟩ : ∃ V, w5.alloc (.cells #[.string s3.name, .int .u32 s3.addr, .int .i64 s3.kind] 27) = V := ⟨_, rfl⟩
  rw [hV5] at hp5
  have hE5 : Ext V4 V5 := hx5.trans (by rw [← hV5]; exact (Ext.refl w5).alloc _)
  have HE5 := hid (HE4.out.trans hE5)
  have HD5 := hid hE5
  have HP5 := hid hp5
  clear hx5 hE5 hp5
  go_wp2_with fail
  clear hV5
  refine (near6_any _ A n c l (HL.out.ext HE5.out) a ha).mono ?_
  rintro e w6 ⟨hx6, rfl⟩
  rw [HQ3.out.1, HQ3.out.2.1, HQ3.out.2.2]
  simp only [syVal]
  have hp6 := SyAt.new w6 s3 27
  obtain ⟨V6, hV6⟩ : ∃ V, w6.alloc (.cells #[.string s3.name, .int .u32 s3.addr, .int .i64 s3.kind] 27) = V := ⟨_, rfl⟩
  rw [hV6] at hp6
  have hE6 : Ext V5 V6 := hx6.trans (by rw [← hV6]; exact (Ext.refl w6).alloc _)
  have HE6 := hid (HE5.out.trans hE6)
  have HD6 := hid hE6
  have HP6 := hid hp6
  clear hx6 hE6 hp6
  obtain ⟨p10, p11, p12, -⟩ := HP1.out.ext (HD2.out.trans (HD3.out.trans (HD4.out.trans (HD5.out.trans HD6.out))))
  obtain ⟨p20, p21, p22, -⟩ := HP2.out.ext (HD3.out.trans (HD4.out.trans (HD5.out.trans HD6.out)))
  obtain ⟨p30, p31, p32, -⟩ := HP3.out.ext (HD4.out.trans (HD5.out.trans HD6.out))
  obtain ⟨p40, p41, p42, -⟩ := HP4.out.ext (HD5.out.trans HD6.out)
  obtain ⟨p50, p51, p52, -⟩ := HP5.out.ext HD6.out
  obtain ⟨p60, p61, p62, -⟩ := HP6.out
  go_wp2_with fail
  refine (example_any _ (HT.out.ext HE6.out)).mono ?_
  rintro e w7 ⟨rfl, hx7⟩
  have HX7 := hid (HE6.out.trans hx7)
  clear hx7
  go_wp2
  go_ret
  exact ⟨rfl, HX7.out⟩
end Go.Proofs.YtekilcnkinmakaaDoor
