/- Chapter 7: the examples. -/
import Derived.Test.YtnlofhbimfcejaaRelJ
namespace Go.Proofs.Ytnlofhbimfcejaa
open Go.RowKit Go.Deco
set_option linter.unusedSimpArgs false
set_option linter.unusedVariables false

def exTwo : Ob := ⟨0, (exOb 0).secs, (exOb 0).syms, (exOb 0).rels ++ [⟨0, 3, 1, ⟨#[120]⟩, 0⟩]⟩
theorem exv : relVal ⟨0, 0, 2, ⟨#[]⟩, 8⟩ 4100 8192 = (4096, 0) := by kernel_rfl
theorem exc4 : obCheck (exOb 4) = 0 := by kernel_rfl
theorem exc5 : obCheck (exOb 5) = 7 := by kernel_rfl
theorem exc2 : obCheck exTwo = 10 := by kernel_rfl
theorem exa4 : (applyOb (exOb 4)).secs = [⟨⟨#[115]⟩, 4096, [1, 2, 3, 4, 0, 32, 0, 0], false, false⟩] := by kernel_rfl
theorem exs4 : asc (placesOf (exOb 4)) = [4100] := by kernel_rfl
theorem exl (f : Int) : (exOb f).secs.length = 1 ∧ (exOb f).syms.length = 1 ∧ (exOb f).rels.length = 1 := ⟨rfl, rfl, rfl⟩
theorem Box4.grown {w w' : World} {b : Nat} {v0 v1 v2 v3 : Value} {row : Option Nat} (h : Box4 w b v0 v1 v2 v3) (hg : w.grownBy w' row) (hne : some b ≠ row) : Box4 w' b v0 v1 v2 v3 := by
  have hb := hg.block b h.lt hne
  obtain ⟨h0, h1, h2, h3, hf⟩ := h
  refine ⟨grown_cell hg h0 hne, grown_cell hg h1 hne, grown_cell hg h2 hne, grown_cell hg h3 hne, fun i => ?_⟩
  have := hf i
  unfold World.frozen? at *
  rw [hb]
  exact this
theorem after7 {V3 w5 w6 V6 w7 : World} {v0 : Value} {Bs By Br A7 : Option Addr} {c7 h6 : Nat} {S : List Sec} {Y : List Sy} {L2 : List Rl} {o : Obj} (hB : Box4 V6 w6.heap.size v0 (.slice Bs 1 1) (.slice By 1 1) (.slice Br 1 1))
    (hrow : ∀ b, (Value.slice Br 1 1).ownBlock = some b → h6 ≤ b ∧ b < w6.heap.size) (hs : Sl secR V6 (fun b => b < h6) (.slice Bs 1 1) S) (hy : Sl symR V6 (fun b => b < h6) (.slice By 1 1) Y) (hlo : w5.heap.size ≤ h6) (hE5 : Ext w5 V6) (hE3 : Ext V3 V6)
    (h35 : V3.heap.size ≤ w5.heap.size) (hz : V6.heap.size = w6.heap.size + 1) (h6w : h6 ≤ w6.heap.size) (ho : OwnS relR w7 h6 36 All (.slice A7 2 c7) L2) (hg : (V6.alloc o).grownBy w7 (Value.slice Br 1 1).ownBlock)
    (hl : ∀ g, (Value.slice A7 2 c7).ownBlock = some g → (Value.slice Br 1 1).ownBlock = some g ∨ V6.heap.size < g) :
    ∃ W8, w7.setCell ⟨w6.heap.size, 3, none⟩ (.slice A7 2 c7) = W8 ∧ w7.cell? ⟨w6.heap.size, 3, none⟩ = some (.slice Br 1 1) ∧ (∀ i, w7.frozen? ⟨w6.heap.size, i, none⟩ = false) ∧ Box4 W8 w6.heap.size v0 (.slice Bs 1 1) (.slice By 1 1) (.slice A7 2 c7) ∧
      Ext V3 W8 ∧ Ext w5 W8 ∧ Sl secR W8 All (.slice Bs 1 1) S ∧ Sl symR W8 All (.slice By 1 1) Y ∧ Sl relR W8 All (.slice A7 2 c7) L2 := by
  have hB7 := (hB.ext ((Ext.refl V6).alloc o)).grown hg (fun e => by have := hrow _ e.symm; omega)
  have hX57 : Ext w5 w7 := (hE5.alloc _).grown hg (fun k hk => by have := (hrow k hk).1; omega)
  have hX37 : Ext V3 w7 := (hE3.alloc _).grown hg (fun k hk => by have := (hrow k hk).1; omega)
  have hS7 := (hs.ext ((Ext.refl V6).alloc o)).keep (w' := w7) (fun b hb hi => hg.block b hi.lt (fun e => by have := hrow b e.symm; omega))
  have hY7 := (hy.ext ((Ext.refl V6).alloc o)).keep (w' := w7) (fun b hb hi => hg.block b hi.lt (fun e => by have := hrow b e.symm; omega))
  refine ⟨_, rfl, hB7.2.2.2.1, hB7.2.2.2.2, hB7.put3 _, hX37.setCell (by show V3.heap.size ≤ w6.heap.size; omega) _, hX57.setCell (by show w5.heap.size ≤ w6.heap.size; omega) _, ?_, ?_, ?_⟩
  · exact (hS7.keep fun b hb _ => Below.heap_setCell _ _ _ b (by show b ≠ w6.heap.size; omega)).all
  · exact (hY7.keep fun b hb _ => Below.heap_setCell _ _ _ b (by show b ≠ w6.heap.size; omega)).all
  · refine ((relP.anyT ho (fun _ => False)).set_far (p := ⟨w6.heap.size, 3, none⟩) (fun e => ?_) (fun _ h => h.elim)).sl
    rcases hl _ e with q | q
    · exact absurd (hrow _ q).2 (Nat.lt_irrefl _)
    · have q' : V6.heap.size < w6.heap.size := q
      omega
theorem data4 {W : World} {A : Option Addr} {c : Nat} (h : Sl secR W All (.slice A 1 c) [⟨⟨#[115]⟩, 4096, [1, 2, 3, 4, 0, 32, 0, 0], false, false⟩]) :
    ∃ g o dA dc, A = some ⟨g, o, none⟩ ∧ W.cell? ⟨g, o + 2, none⟩ = some (.slice dA 8 dc) ∧ (convert 44 9 (.slice dA 8 dc)).run Try.prog W = .ok (.string ⟨#[1, 2, 3, 4, 0, 32, 0, 0]⟩) W := by
  obtain ⟨g, o, dA, dc, hA, hd, -, -, -, -, -, m2, -, -⟩ := h.sec_at (k := 0) rfl
  refine ⟨g, o, dA, dc, hA, by simpa using m2, ?_⟩
  have := run_str (P := Try.prog) 44 9 5 Try.underlying44 Try.underlying5 Try.underlying9 hd
  exact this
theorem site4 {W : World} {A : Option Addr} {c : Nat} (h : Sl u32R W All (.slice A 1 c) [4100]) : ∃ g o, A = some ⟨g, o, none⟩ ∧ W.cell? ⟨g, o, none⟩ = some (.int .u32 4100) := by
  obtain ⟨g, o, hA, hc, -⟩ := h.num_at (k := 0) rfl
  exact ⟨g, o, hA, by simpa using hc⟩
theorem ext4c {w w' : World} {p0 p1 p2 p3 : Addr} {u0 u1 u2 u3 : Value} (h : w.cell? p0 = some u0 ∧ w.cell? p1 = some u1 ∧ w.cell? p2 = some u2 ∧ w.cell? p3 = some u3) (he : Ext w w') : w'.cell? p0 = some u0 ∧ w'.cell? p1 = some u1 ∧ w'.cell? p2 = some u2 ∧ w'.cell? p3 = some u3 :=
  ⟨he.cell h.1, he.cell h.2.1, he.cell h.2.2.1, he.cell h.2.2.2⟩
def OneTrue (w : World) (e : Ending) (w' : World) : Prop := e = .returned (.bool true) ∧ Ext w w'

set_option maxRecDepth 100000 in
set_option maxHeartbeats 4000000 in
theorem example7_any (w : World) : Calls Try.prog 11 #[] w (OneTrue w) := by
  obtain ⟨i0, hi, hz0, hz1, hz2⟩ := info_parts info_rel
  have HI := hid hi
  have HZ0 := hid hz0
  have HZ1 := hid hz1
  have HZ2 := hid hz2
  clear hi hz0 hz1 hz2
  go_enter Try.func11, Try.ntmps11
  go_wp2_with fail
  refine (rlvalue_any w ⟨0, 0, 2, ⟨#[]⟩, 8⟩ 4100 8192).mono ?_
  rintro e w1 ⟨rfl, hx1⟩
  rw [exv]
  have HX1 := hid hx1
  clear hx1
  go_wp2_with fail
  refine (object_any w1 4 (by omega)).mono ?_
  rintro e w2 ⟨As, Ay, Ar, h2, rfl, hx2, hs, hy, ho, -⟩
  have HX2 := hid (HX1.out.trans hx2)
  have hap := rlapply_any w2 (exOb 4) As Ay Ar 1 1 1 1 1 1 hs.all hy.all ho.sl
  have HAP := hid hap
  clear hx2 hs hy ho hap
  go_wp2_with fail
  refine (HAP.out).mono ?_
  rintro e w3 (⟨hne, -, -⟩ | ⟨-, A1, A2, c1, c2, H, hi, rfl, hx3, hsx, -⟩)
  · exact absurd exc4 hne
  rw [(exl _).1, (exl _).2.1]
  rw [exa4, (exl _).1] at hsx
  have HX3 := hid (HX2.out.trans hx3)
  have HSX := hid hsx
  clear hx3 hsx
  have hb3 := Box4.new w3 (.int .u32 0) (.slice A1 1 c1) (.slice A2 1 c2) (.slice none 0 0) 27
  obtain ⟨V3, hV3⟩ : ∃ V, w3.alloc (.cells #[.int .u32 0, .slice A1 1 c1, .slice A2 1 c2, .slice none 0 0] 27) = V := ⟨_, rfl⟩
  rw [hV3] at hb3
  have hE3 : Ext w3 V3 := by rw [← hV3]; exact (Ext.refl w3).alloc _
  have HB3 := hid hb3
  have HXV3 := hid (HX3.out.trans hE3)
  have HSV3 := hid (HSX.out.ext hE3)
  clear hb3 hE3
  have hen : ((exOb 4).entry : Int) = 0 := rfl
  rw [hen]
  have HV3 := hid hV3
  clear hen hV3
  go_wp2_with fail
  rw [HV3.out]
  clear HV3
  refine (object_any V3 4 (by omega)).mono ?_
  rintro e w4 ⟨As, Ay, Ar, h4, rfl, hx4, hs, hy, ho, -⟩
  have HX4 := hid hx4
  have hst := rlsites_any w4 (exOb 4) As Ay Ar 1 1 1 1 1 1 hs.all ho.sl (by omega)
  rw [exs4] at hst
  have HST := hid hst
  clear hx4 hs hy ho hst
  go_wp2_with fail
  refine (HST.out).mono ?_
  rintro e w5 ⟨hx5, A5, c5, rfl, hs5⟩
  have HX5 := hid (HX4.out.trans hx5)
  have HS5 := hid hs5
  clear hx5 hs5
  simp only [List.length_singleton]
  go_wp2_with fail
  refine (object_any w5 0 (by omega)).mono ?_
  rintro e w6 ⟨Bs, By, Br, h6, rfl, hx6, hs, hy, ho, hlo⟩
  have HX6 := hid (HX5.out.trans hx6)
  have HS56 := hid (HS5.out.ext hx6)
  have hb6 := Box4.new w6 (.int .u32 0) (.slice Bs 1 1) (.slice By 1 1) (.slice Br 1 1) 27
  obtain ⟨V6, hV6⟩ : ∃ V, w6.alloc (.cells #[.int .u32 0, .slice Bs 1 1, .slice By 1 1, .slice Br 1 1] 27) = V := ⟨_, rfl⟩
  rw [hV6] at hb6
  have hE6 : Ext w6 V6 := by rw [← hV6]; exact (Ext.refl w6).alloc _
  have hz6 : V6.heap.size = w6.heap.size + 1 := by rw [← hV6]; simp
  have hb6l := hb6.lt
  obtain ⟨q0, q1, q2, q3, qf⟩ := hb6
  have HB6 : Hid (Box4 V6 w6.heap.size (.int .u32 0) (.slice Bs 1 1) (.slice By 1 1) (.slice Br 1 1)) := hid ⟨q0, q1, q2, q3, qf⟩
  have HOR := hid (ho.ext hE6)
  have HSR := hid (hs.ext hE6)
  have HYR := hid (hy.ext hE6)
  have HXV6 := hid (HX6.out.trans hE6)
  have HS5V := hid (HS56.out.ext hE6)
  have HLO := hid hlo
  have HBK := hid ho.block
  have HSZ6 := hid hz6
  have hrok : RlOk ⟨0, 3, 1, ⟨#[120]⟩, 0⟩ := by
    show ((-9223372036854775808 : Int) ≤ 0 ∧ (0 : Int) ≤ 9223372036854775807) ∧ ((-9223372036854775808 : Int) ≤ 3 ∧ (3 : Int) ≤ 9223372036854775807) ∧ ((-9223372036854775808 : Int) ≤ 1 ∧ (1 : Int) ≤ 9223372036854775807) ∧ (⟨#[120]⟩ : ByteArray).size ≤ maxLen ∧ ((-2147483648 : Int) ≤ 0 ∧ (0 : Int) ≤ 2147483647)
    exact ⟨by omega, by omega, by omega, by simp [maxLen, ByteArray.size], by omega⟩
  have HROK := hid hrok
  have hh6w : h6 ≤ w6.heap.size := by
    obtain ⟨g, -, q⟩ := OwnS.at0 ho (by omega)
    omega
  have hh6 : h6 ≤ V6.heap.size := by omega
  have HH6 := hid hh6
  have HH6W := hid hh6w
  have HB6L := hid hb6l
  have HX36 := hid (HX4.out.size)
  have HE5 := hid (show Ext w5 V6 from hx6.trans hE6)
  have HE3 := hid (show Ext V3 V6 from HX5.out.trans (hx6.trans hE6))
  clear hx6 hs hy ho hE6 hz6 hlo hrok hb6l q0 q1 q2 qf
  go_wp2_with (first
    | (at_builtin; refine wpList_app1l rfl (.tmp 21) (.tmp 23) 25 rfl h6 36 i0 _ 5 48 Try.underlying25 HI.out HZ0.out HZ1.out HZ2.out rfl relR rfl (.slice Br 1 1) (exOb 0).rels rfl HOR.out V6.heap.size rfl ⟨0, 3, 1, ⟨#[120]⟩, 0⟩ rfl ⟨rfl, HROK.out⟩ (by simp [exOb]) (by simp [exOb]) HH6.out ?_; intro A7 c7 w7 hown7 hg7 hl7; rw [show (exOb 0).rels.length + 1 = 2 from rfl] at hown7 hl7 ⊢; have HO7 := hid hown7; have HG7 := hid hg7; have HL7 := hid hl7; clear hown7 hg7 hl7; obtain ⟨W8, hW8, q3, qf, hB8, hX38, hX58, hS8, hY8, hO8⟩ := after7 (A7 := A7) (c7 := c7) HB6.out HBK.out HSR.out HYR.out HLO.out HE5.out HE3.out HX5.out.size HSZ6.out HH6W.out HO7.out HG7.out HL7.out; obtain ⟨k0, k1, k2, k3, -⟩ := HB3.out.ext hX38; obtain ⟨gs, os, dA, dc, hA1, m2, hcv⟩ := data4 ((HSV3.out.ext hX38).sl (S := All) (fun _ _ => trivial)); subst hA1; obtain ⟨g5, o5, hA5, n0⟩ := site4 (HS5.out.ext hX58); subst hA5; obtain ⟨j0, j1, j2, j3, -⟩ := hB8; have HT := hid (And.intro hX38 (And.intro hS8 (And.intro hY8 hO8))); clear hX38 hX58 hS8 hY8 hO8)
    | fail)
  clear hcv k0 k1 k2 k3 m2 n0 q3 qf
  have hX8 := hid ((HXV3.out).trans HT.out.1)
  refine (object_any W8 5 (by omega)).mono ?_
  rintro e w9 ⟨Cs, Cy, Cr, h9, rfl, hx9, hs, hy, ho, -⟩
  have hck := rlcheck_any w9 (exOb 5) Cs Cy Cr 1 1 1 1 1 1 hs.all hy.all ho.sl
  rw [exc5] at hck
  have HCK := hid hck
  have HX9 := hid hx9
  clear hs hy ho hck hx9 hW8
  go_wp2_with fail
  refine (HCK.out).mono ?_
  rintro e w10 ⟨rfl, hx10⟩
  have HX10 := hid (HX9.out.trans hx10)
  have j0 := HX10.out.cell j0
  have j1 := HX10.out.cell j1
  have j2 := HX10.out.cell j2
  have j3 := HX10.out.cell j3
  have hck := rlcheck_any w10 exTwo Bs By A7 1 1 1 1 2 c7 (HT.out.2.1.ext HX10.out) (HT.out.2.2.1.ext HX10.out) (HT.out.2.2.2.ext HX10.out)
  rw [exc2] at hck
  have HCK := hid hck
  clear hx10 hck
  go_wp2_with fail
  refine (HCK.out).mono ?_
  rintro e w11 ⟨rfl, hx11⟩
  have HX11 := hid (hX8.out.trans (HX10.out.trans hx11))
  clear hx11 j0 j1 j2 j3
  go_wp2
  go_ret
  exact ⟨rfl, HX11.out⟩
end Go.Proofs.Ytnlofhbimfcejaa
