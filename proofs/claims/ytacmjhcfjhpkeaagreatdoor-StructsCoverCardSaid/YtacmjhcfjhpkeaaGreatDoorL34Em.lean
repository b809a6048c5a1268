/- The helpers of the laws of chapter 34: exampleHolds. -/
import Derived.Test.YtacmjhcfjhpkeaaGreatDoorLabm
import Derived.Test.YtacmjhcfjhpkeaaGreatDoorNamm
import Derived.Test.YtacmjhcfjhpkeaaGreatDoorStrJm
import Derived.Test.YtacmjhcfjhpkeaaGreatDoorRmnm
import Derived.Test.YtacmjhcfjhpkeaaGreatDoorRokm
namespace Go.Proofs.YtacmjhcfjhpkeaaGreatDoor
open Go.RowKit Go.Deco
set_option linter.unusedSimpArgs false
set_option linter.unusedVariables false
theorem bl_loop (bs : ByteArray) : ∀ (n i : Nat) (r : List UInt8), bs.size - i = n → ByteArray.toList.loop bs i r = r.reverse ++ bs.data.toList.drop i := by
 intro n
 induction n with
 | zero =>
  intro i r h
  rw [ByteArray.toList.loop]
  have h2 : ¬ i < bs.size := by omega
  rw [if_neg h2, List.drop_eq_nil_of_le (by show bs.data.toList.length ≤ i; rw [Array.length_toList]; exact Nat.le_of_not_lt h2)]
  simp
 | succ n ih =>
  intro i r h
  rw [ByteArray.toList.loop]
  have h2 : i < bs.size := by omega
  rw [if_pos h2, ih (i + 1) _ (by omega)]
  have h3 : bs.data.toList.drop i = bs.get! i :: bs.data.toList.drop (i + 1) := by
   have h4 : i < bs.data.toList.length := by rw [Array.length_toList]; exact h2
   rw [List.drop_eq_getElem_cons h4]
   congr 1
   have h5 : i < bs.data.size := h2
   simp [ByteArray.get!]
   exact (getElem!_pos bs.data i h5).symm
  rw [h3]
  simp
theorem ba_toList (bs : ByteArray) : bs.toList = bs.data.toList := by
 rw [ByteArray.toList, bl_loop bs _ 0 [] rfl]
 simp
theorem strOf_toList (L : List Nat) : (strOf L).toList = L.map UInt8.ofNat := by rw [ba_toList]; simp [strOf]
theorem ex_d : strideL (asc (offN exD)) = (8, true) := by kernel_rfl
def accCells (a : Acc) : List Value := [.int .i64 a.base, .int .i64 a.off, .int .i64 a.width, .bool a.sgn]
theorem acc_chunks {w : World} {S : Nat → Prop} : ∀ (l : List Acc), (∀ a ∈ l, i64b a.base ∧ i64b a.off ∧ i64b a.width) → Chunks accR w S (l.flatMap accCells) l
 | [], _ => rfl
 | a :: l, h => ⟨accCells a, l.flatMap accCells, by simp, ⟨rfl, h a (by simp)⟩, acc_chunks l fun x hx => h x (by simp [hx])⟩
theorem acc_lit (w : World) (t : TypeId) (l : List Acc) (h : ∀ a ∈ l, i64b a.base ∧ i64b a.off ∧ i64b a.width) (hl : l.length ≤ 1000) :
  Sl accR (w.alloc (.cells (l.flatMap accCells).toArray t)) All (.slice (some ⟨w.heap.size, 0, none⟩) l.length l.length) l := by
 have hc := acc_chunks (w := w.alloc (.cells (l.flatMap accCells).toArray t)) (S := fun b => All b ∧ some b ≠ some w.heap.size) l h
 have ho := World.ownsRow_lit (size := 4) (e := t) w (l.flatMap accCells).toArray l.length (Nat.le_refl _) (by simp [maxLen]; omega) (by have h1 := hc.length; rw [List.size_toArray]; exact h1)
 have h2 : OwnS accR (w.alloc (.cells (l.flatMap accCells).toArray t)) w.heap.size t All (.slice (some ⟨w.heap.size, 0, none⟩) l.length l.length) l := ⟨l.flatMap accCells, ho, hc⟩
 exact h2.sl
theorem ex_ty (w : World) (o : Int) (ho : i64b o) : TyV 1 (w.alloc (.cells #[.int .i64 o, .int .i64 1, .int .i64 4, .int .i64 0, .slice none 0 0, .slice none 0 0] 48)) All (.agg #[.int .i64 5, .int .i64 0, .int .i64 0, .slice none 0 0, .slice (some ⟨w.heap.size, 0, none⟩) 1 1]) (Ty.str [(o, Ty.int 4)]) := by
 have hr : (fdR (tyR 1)).rel w (fun b => All b ∧ b < w.heap.size) [.int .i64 o, .int .i64 1, .int .i64 4, .int .i64 0, .slice none 0 0, .slice none 0 0] (o, Ty.int 4) :=
  fd_rel.2 ⟨none, 0, 0, none, 0, 0, rfl, ho, tyV_leaf 0 w _ 1 4 (by unfold i64b; omega) (by unfold i64b; omega)⟩
 have h := own_lit1 (e := 48) (Nat.le_refl w.heap.size) hr
 refine ⟨none, 0, 0, some ⟨w.heap.size, 0, none⟩, 1, 1, rfl, Sl.nil, h.sl, ?_, ?_, ?_⟩ <;> simp [i64b, Ty.str, Ty.kind, Ty.size, Ty.count]
theorem ints_lit (w : World) (t : TypeId) : Sl offR (w.alloc (.cells #[.int .i64 0, .int .i64 2] t)) All (.slice (some ⟨w.heap.size, 0, none⟩) 2 2) [0, 2] := by
 have ho := World.ownsRow_lit (size := 1) (e := t) w #[.int .i64 0, .int .i64 2] 2 (Nat.le_refl _) (by simp [maxLen]) (by rfl)
 have h : OwnS offR (w.alloc (.cells #[.int .i64 0, .int .i64 2] t)) w.heap.size t All (.slice (some ⟨w.heap.size, 0, none⟩) 2 2) [0, 2] := ⟨_, ho, chunks_num.2 ⟨rfl, by simp⟩⟩
 exact h.sl
theorem i64_lit : ∀ a ∈ exA ++ exB ++ exC ++ exD, i64b a.base ∧ i64b a.off ∧ i64b a.width := by
 intro a ha
 simp [exA, exB, exC, exD] at ha
 unfold i64b
 rcases ha with rfl | rfl | rfl | rfl | rfl | rfl | rfl | rfl | rfl | rfl | rfl <;> simp
set_option maxRecDepth 100000 in
set_option maxHeartbeats 8000000 in
theorem lex_any (w : World) (ht : Tab10 w) (hg : TabAt w) : Calls Tryz.prog 13 #[] w (TBool w true) := by
 have HT := hid ht
 have HG := hid hg
 clear ht hg
 go_enter Tryz.func13, Tryz.ntmps13
 go_wp2_with fail
 have HLexA := hid (acc_lit w 59 exA (fun a ha => i64_lit a (by simp [ha])) (by decide))
 have HCexA := hid (layout_any _ _ 2 2 exA HLexA.out)
 rw [ex_a] at HCexA
 refine HCexA.out.mono ?_
 rintro e w1 ⟨vw1, rfl, hv, hx⟩
 have HTw1 := hid (TyV.all (t := tyA) hv)
 have HXw1 := hid hx
 clear hv hx
 obtain ⟨Aw1, nw1, cw1, Bw1, mw1, ew1, hv, -⟩ := HTw1.out
 subst hv
 go_upto_region 2 with fail
 obtain ⟨U1, hU1⟩ : ∃ U1, w1.alloc (.cells #[.int .i64 tyA.kind, .int .i64 tyA.size, .int .i64 tyA.count, .slice Aw1 nw1 cw1, .slice Bw1 mw1 ew1] 25) = U1 := ⟨_, rfl⟩
 rw [hU1]
 have HEU1 := hid (by rw [← hU1]; exact (Ext.refl w1).alloc _ : Ext w1 U1)
 have o0U1 : U1.cell? ⟨w1.heap.size, 0, none⟩ = some (.int .i64 tyA.kind) := by rw [← hU1]; simp [go_sem]
 have o1U1 : U1.cell? ⟨w1.heap.size, 1, none⟩ = some (.int .i64 tyA.size) := by rw [← hU1]; simp [go_sem]
 have o2U1 : U1.cell? ⟨w1.heap.size, 2, none⟩ = some (.int .i64 tyA.count) := by rw [← hU1]; simp [go_sem]
 have o3U1 : U1.cell? ⟨w1.heap.size, 3, none⟩ = some (.slice Aw1 nw1 cw1) := by rw [← hU1]; simp [go_sem]
 have o4U1 : U1.cell? ⟨w1.heap.size, 4, none⟩ = some (.slice Bw1 mw1 ew1) := by rw [← hU1]; simp [go_sem]
 have HOU1 := hid (fun W (hW : Ext U1 W) => And.intro (hW.cell o0U1) (And.intro (hW.cell o1U1) (And.intro (hW.cell o2U1) (And.intro (hW.cell o3U1) (hW.cell o4U1)))))
 clear hU1 o0U1 o1U1 o2U1 o3U1 o4U1
 go_wp2_with fail
 have HLexB := hid (acc_lit U1 59 exB (fun a ha => i64_lit a (by simp [ha])) (by decide))
 have HCexB := hid (layout_any _ _ 3 3 exB HLexB.out)
 rw [ex_b] at HCexB
 refine HCexB.out.mono ?_
 rintro e w2 ⟨vw2, rfl, hv, hx⟩
 have HTw2 := hid (TyV.all (t := tyB) hv)
 have HXw2 := hid hx
 clear hv hx
 obtain ⟨Aw2, nw2, cw2, Bw2, mw2, ew2, hv, -⟩ := HTw2.out
 subst hv
 go_upto_region 3 with fail
 obtain ⟨U2, hU2⟩ : ∃ U2, w2.alloc (.cells #[.int .i64 tyB.kind, .int .i64 tyB.size, .int .i64 tyB.count, .slice Aw2 nw2 cw2, .slice Bw2 mw2 ew2] 25) = U2 := ⟨_, rfl⟩
 rw [hU2]
 have HEU2 := hid (by rw [← hU2]; exact (Ext.refl w2).alloc _ : Ext w2 U2)
 have o0U2 : U2.cell? ⟨w2.heap.size, 0, none⟩ = some (.int .i64 tyB.kind) := by rw [← hU2]; simp [go_sem]
 have o1U2 : U2.cell? ⟨w2.heap.size, 1, none⟩ = some (.int .i64 tyB.size) := by rw [← hU2]; simp [go_sem]
 have o2U2 : U2.cell? ⟨w2.heap.size, 2, none⟩ = some (.int .i64 tyB.count) := by rw [← hU2]; simp [go_sem]
 have o3U2 : U2.cell? ⟨w2.heap.size, 3, none⟩ = some (.slice Aw2 nw2 cw2) := by rw [← hU2]; simp [go_sem]
 have o4U2 : U2.cell? ⟨w2.heap.size, 4, none⟩ = some (.slice Bw2 mw2 ew2) := by rw [← hU2]; simp [go_sem]
 have HOU2 := hid (fun W (hW : Ext U2 W) => And.intro (hW.cell o0U2) (And.intro (hW.cell o1U2) (And.intro (hW.cell o2U2) (And.intro (hW.cell o3U2) (hW.cell o4U2)))))
 clear hU2 o0U2 o1U2 o2U2 o3U2 o4U2
 go_upto_region 4 with fail
 have hc9 : Sl accR (U2.alloc (.cells #[.int .i64 0, .int .i64 0, .int .i64 4, .bool false, .int .i64 0, .int .i64 8, .int .i64 4, .bool false, .int .i64 0, .int .i64 2, .int .i64 2, .bool false] 59)) All (.slice (some ⟨U2.heap.size, 0, none⟩) 3 3) exC := acc_lit U2 59 exC (fun a ha => i64_lit a (by simp [ha])) (by decide)
 obtain ⟨U3, hU3⟩ : ∃ U3, U2.alloc (.cells #[.int .i64 0, .int .i64 0, .int .i64 4, .bool false, .int .i64 0, .int .i64 8, .int .i64 4, .bool false, .int .i64 0, .int .i64 2, .int .i64 2, .bool false] 59) = U3 := ⟨_, rfl⟩
 have HEU3 := hid (by rw [← hU3]; exact (Ext.refl U2).alloc _ : Ext U2 U3)
 rw [hU3] at hc9 ⊢
 have HC9 := hid hc9
 have HCC := hid (layout_any U3 _ 3 3 exC hc9)
 clear hc9 hU3
 rw [ex_c] at HCC
 go_wp2_with fail
 refine HCC.out.mono ?_
 rintro e w4 ⟨vw4, rfl, hv, hx⟩
 have HTw4 := hid (TyV.all (t := tyC) hv)
 have HXw4 := hid hx
 clear hv hx
 obtain ⟨Aw4, nw4, cw4, Bw4, mw4, ew4, hv, -⟩ := HTw4.out
 subst hv
 go_upto_region 5 with fail
 obtain ⟨U4, hU4⟩ : ∃ U4, w4.alloc (.cells #[.int .i64 tyC.kind, .int .i64 tyC.size, .int .i64 tyC.count, .slice Aw4 nw4 cw4, .slice Bw4 mw4 ew4] 25) = U4 := ⟨_, rfl⟩
 rw [hU4]
 have HEU4 := hid (by rw [← hU4]; exact (Ext.refl w4).alloc _ : Ext w4 U4)
 have o0U4 : U4.cell? ⟨w4.heap.size, 0, none⟩ = some (.int .i64 tyC.kind) := by rw [← hU4]; simp [go_sem]
 have o1U4 : U4.cell? ⟨w4.heap.size, 1, none⟩ = some (.int .i64 tyC.size) := by rw [← hU4]; simp [go_sem]
 have o2U4 : U4.cell? ⟨w4.heap.size, 2, none⟩ = some (.int .i64 tyC.count) := by rw [← hU4]; simp [go_sem]
 have o3U4 : U4.cell? ⟨w4.heap.size, 3, none⟩ = some (.slice Aw4 nw4 cw4) := by rw [← hU4]; simp [go_sem]
 have o4U4 : U4.cell? ⟨w4.heap.size, 4, none⟩ = some (.slice Bw4 mw4 ew4) := by rw [← hU4]; simp [go_sem]
 have HOU4 := hid (fun W (hW : Ext U4 W) => And.intro (hW.cell o0U4) (And.intro (hW.cell o1U4) (And.intro (hW.cell o2U4) (And.intro (hW.cell o3U4) (hW.cell o4U4)))))
 clear hU4 o0U4 o1U4 o2U4 o3U4 o4U4
 go_wp2_with fail
 have HLexD := hid (acc_lit U4 59 exD (fun a ha => i64_lit a (by simp [ha])) (by decide))
 have HCexD := hid (strides_any _ _ 3 3 exD HLexD.out (by omega))
 rw [ex_d] at HCexD
 refine HCexD.out.mono ?_
 rintro e w5 ⟨rfl, hx⟩
 have HXw5 := hid hx
 clear hx
 go_wp2_with fail
 refine (rint_any _ 4).mono ?_
 rintro e w6 ⟨rfl, hx⟩
 have HXw6 := hid hx
 clear hx
 go_wp2_with fail
 refine (rint_any _ 4).mono ?_
 rintro e w7 ⟨rfl, hx⟩
 have HXw7 := hid hx
 have HTE := hid ((ex_ty w6 0 (by unfold i64b; omega)).ext hx)
 have HTF := hid (ex_ty w7 4 (by unfold i64b; omega))
 clear hx
 go_wp2_with fail
 have HME := hid (merge_any 1 _ exE exF _ _ (HTE.out.ext ((Ext.refl w7).alloc _)) HTF.out)
 rw [ex_e] at HME
 refine HME.out.mono ?_
 rintro e w8 ⟨vw8, rfl, hv, hx⟩
 have HTw8 := hid (TyV.all (t := tyD) hv)
 have HXw8 := hid hx
 clear hv hx
 obtain ⟨Aw8, nw8, cw8, Bw8, mw8, ew8, hv, -⟩ := HTw8.out
 subst hv
 go_upto_region 7 with fail
 obtain ⟨U8, hU8⟩ : ∃ U8, w8.alloc (.cells #[.int .i64 tyD.kind, .int .i64 tyD.size, .int .i64 tyD.count, .slice Aw8 nw8 cw8, .slice Bw8 mw8 ew8] 25) = U8 := ⟨_, rfl⟩
 rw [hU8]
 have HEU8 := hid (by rw [← hU8]; exact (Ext.refl w8).alloc _ : Ext w8 U8)
 have o0U8 : U8.cell? ⟨w8.heap.size, 0, none⟩ = some (.int .i64 tyD.kind) := by rw [← hU8]; simp [go_sem]
 have o1U8 : U8.cell? ⟨w8.heap.size, 1, none⟩ = some (.int .i64 tyD.size) := by rw [← hU8]; simp [go_sem]
 have o2U8 : U8.cell? ⟨w8.heap.size, 2, none⟩ = some (.int .i64 tyD.count) := by rw [← hU8]; simp [go_sem]
 have o3U8 : U8.cell? ⟨w8.heap.size, 3, none⟩ = some (.slice Aw8 nw8 cw8) := by rw [← hU8]; simp [go_sem]
 have o4U8 : U8.cell? ⟨w8.heap.size, 4, none⟩ = some (.slice Bw8 mw8 ew8) := by rw [← hU8]; simp [go_sem]
 have HOU8 := hid (fun W (hW : Ext U8 W) => And.intro (hW.cell o0U8) (And.intro (hW.cell o1U8) (And.intro (hW.cell o2U8) (And.intro (hW.cell o3U8) (hW.cell o4U8)))))
 clear hU8 o0U8 o1U8 o2U8 o3U8 o4U8
 have EU8 := hid HEU8.out
 have E1 := hid ((((Ext.refl w7).alloc _).trans HXw8.out).trans HEU8.out)
 have E2 := hid ((((Ext.refl w6).alloc _).trans HXw7.out).trans E1.out)
 have E3 := hid ((HXw6.out.trans E2.out))
 have E4 := hid ((((Ext.refl U4).alloc _).trans HXw5.out).trans E3.out)
 have E5 := hid ((HXw4.out.trans HEU4.out).trans E4.out)
 have E6 := hid (HEU3.out.trans E5.out)
 have E7 := hid (((((Ext.refl U1).alloc _).trans HXw2.out).trans HEU2.out).trans E6.out)
 have E8 := hid (((((Ext.refl w).alloc _).trans HXw1.out).trans HEU1.out).trans E7.out)
 have HTA := hid ((HTw1.out.ext HEU1.out).ext E7.out)
 have HTB := hid ((HTw2.out.ext HEU2.out).ext E6.out)
 have HTC := hid ((HTw4.out.ext HEU4.out).ext E4.out)
 have HTD := hid (HTw8.out.ext HEU8.out)
 obtain ⟨o0, o1, o2, o3, o4⟩ := HOU1.out U8 (E7.out)
 have HP := hid (print31_any 4 U8 tyA _ HTA.out ex_nod.1)
 rw [ex_pa] at HP
 go_wp2_with fail
 refine HP.out.mono ?_
 rintro e w9 ⟨rfl, hx⟩
 have HXw9 := hid hx
 clear hx o0 o1 o2 o3 o4 HP HME
 obtain ⟨Sw9, hSw9⟩ : ∃ S, strOf [123, 48, 58, 32, 117, 105, 110, 116, 51, 50, 44, 32, 56, 58, 32, 105, 110, 116, 56, 125] = S := ⟨_, rfl⟩
 have hcw9 : Sw9.toList = [123, 48, 58, 32, 117, 105, 110, 116, 51, 50, 44, 32, 56, 58, 32, 105, 110, 116, 56, 125] := by rw [← hSw9, strOf_toList]; rfl
 rw [hSw9]
 clear hSw9
 obtain ⟨o0, o1, o2, o3, o4⟩ := HOU2.out w9 (E6.out.trans HXw9.out)
 have HP := hid (print31_any 4 w9 tyB _ (HTB.out.ext HXw9.out) ex_nod.2.1)
 rw [ex_pb] at HP
 go_wp2_with fail
 refine HP.out.mono ?_
 rintro e w10 ⟨rfl, hx⟩
 have HXw10 := hid hx
 clear hx o0 o1 o2 o3 o4 HP hcw9
 obtain ⟨Sw10, hSw10⟩ : ∃ S, strOf [91, 51, 93, 117, 105, 110, 116, 49, 54] = S := ⟨_, rfl⟩
 have hcw10 : Sw10.toList = [91, 51, 93, 117, 105, 110, 116, 49, 54] := by rw [← hSw10, strOf_toList]; rfl
 rw [hSw10]
 clear hSw10
 have F10 := hid (HXw9.out.trans HXw10.out)
 obtain ⟨o0, o1, o2, o3, o4⟩ := HOU4.out w10 (E4.out.trans F10.out)
 have HP := hid (print31_any 4 w10 tyC _ (HTC.out.ext F10.out) ex_nod.2.2.1)
 rw [ex_pc] at HP
 go_wp2_with fail
 refine HP.out.mono ?_
 rintro e w11 ⟨rfl, hx⟩
 have HXw11 := hid hx
 clear hx o0 o1 o2 o3 o4 HP hcw10
 obtain ⟨Sw11, hSw11⟩ : ∃ S, strOf [123, 48, 58, 32, 91, 52, 93, 117, 105, 110, 116, 56, 44, 32, 56, 58, 32, 117, 105, 110, 116, 51, 50, 125] = S := ⟨_, rfl⟩
 have hcw11 : Sw11.toList = [123, 48, 58, 32, 91, 52, 93, 117, 105, 110, 116, 56, 44, 32, 56, 58, 32, 117, 105, 110, 116, 51, 50, 125] := by rw [← hSw11, strOf_toList]; rfl
 rw [hSw11]
 clear hSw11
 have F11 := hid (F10.out.trans HXw11.out)
 have HCF := hid (sconfl_any w11 _ 3 3 exC (HC9.out.ext (E5.out.trans F11.out)) (by omega))
 unfold ConfIs at HCF
 rw [ex_f] at HCF
 go_wp2_with fail
 refine HCF.out.mono ?_
 rintro e w12 ⟨Aq, cq, rfl, hs, hx⟩
 have HX12 := hid hx
 have HS12 := hid (hs.ext ((Ext.refl w12).alloc (.cells #[.int .i64 0, .int .i64 2] 3)))
 clear hx hs hcw11
 go_wp2_with fail
 refine (sameints_any _ _ _ 2 cq 2 2 [0, 2] [0, 2] HS12.out (ints_lit w12 3)).mono ?_
 rintro e w13 ⟨rfl, hx⟩
 have F13 := hid ((F11.out.trans HX12.out).trans (((Ext.refl w12).alloc _).trans hx))
 clear hx
 obtain ⟨z13, hz13⟩ : ∃ z, decide (([0, 2] : List Nat) = [0, 2]) = z := ⟨_, rfl⟩
 rw [hz13]
 obtain rfl : z13 = true := by rw [← hz13]; rfl
 clear hz13
 obtain ⟨o0, o1, o2, o3, o4⟩ := HOU8.out w13 F13.out
 have HP := hid (print31_any 4 w13 tyD _ (HTD.out.ext F13.out) ex_nod.2.2.2)
 rw [ex_pd] at HP
 go_wp2_with fail
 refine HP.out.mono ?_
 rintro e w14 ⟨rfl, hx⟩
 have HXw14 := hid hx
 clear hx o0 o1 o2 o3 o4 HP F11
 obtain ⟨Sw14, hSw14⟩ : ∃ S, strOf [91, 50, 93, 105, 110, 116, 51, 50] = S := ⟨_, rfl⟩
 have hcw14 : Sw14.toList = [91, 50, 93, 105, 110, 116, 51, 50] := by rw [← hSw14, strOf_toList]; rfl
 rw [hSw14]
 clear hSw14
 have F14 := hid (F13.out.trans HXw14.out)
 obtain ⟨o0, o1, o2, o3, o4⟩ := HOU1.out w14 (E7.out.trans F14.out)
 have HN := hid (sname_any 4 w14 tyA _ (HTA.out.ext F14.out) ex_nod.1 (HT.out.ext (E8.out.trans F14.out)) (HG.out.ext (E8.out.trans F14.out)))
 obtain ⟨N, hN⟩ : ∃ N, nameT tyA = N := ⟨_, rfl⟩
 rw [hN] at HN
 have hz : (strOf N).size = 10 := by rw [strOf_size, ← hN]; exact ex_n
 clear hN
 go_wp2_with fail
 refine HN.out.mono ?_
 rintro e w15 ⟨rfl, hx⟩
 have HX15 := hid (E8.out.trans (F14.out.trans hx))
 clear hx o0 o1 o2 o3 o4
 go_wp2
 go_ret
 exact ⟨rfl, HX15.out⟩
end Go.Proofs.YtacmjhcfjhpkeaaGreatDoor
