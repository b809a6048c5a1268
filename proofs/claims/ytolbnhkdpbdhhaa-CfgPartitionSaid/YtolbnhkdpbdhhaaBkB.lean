/- cfg: a block. -/
import Derived.Test.YtolbnhkdpbdhhaaBkL
import Derived.Test.YtolbnhkdpbdhhaaCfgB
import Derived.Test.YtolbnhkdpbdhhaaBsr
import Derived.Test.YtolbnhkdpbdhhaaU32A
import Derived.Test.YtolbnhkdpbdhhaaIsaG
import Derived.Test.YtolbnhkdpbdhhaaSplit
import Derived.Test.YtolbnhkdpbdhhaaStA
import Derived.Test.YtolbnhkdpbdhhaaReg
import Derived.Deep.CutBlock
import Derived.Deep.CutRange
namespace Go.Proofs.Ytolbnhkdpbdhhaa
open Go.RowKit Go.Deco
set_option linter.unusedSimpArgs false
set_option linter.unusedVariables false

theorem info_insn : (Try.prog.info? 61).map (fun i => (i.zero, i.size, i.bytes)) = some (some (inV In.zero), 9, 64) := by kernel_rfl
theorem info_u32s : (Try.prog.info? 23).map (fun i => (i.zero, i.size, i.bytes)) = some (some (.slice none 0 0), 1, 24) := by kernel_rfl
theorem tab_len {tabs : List (List Nat)} (h : ∀ t ∈ tabs, t.length ≤ 1000) (at_ : List Nat) (a : Nat) : ((tabOf tabs at_ a).getD []).length ≤ 1000 := by
  unfold tabOf
  cases at_.findIdx? (fun x => x == a) with
  | none => simp
  | some k =>
    simp only []
    cases hk : tabs[k]? with
    | none => simp
    | some t => simpa using h t (List.mem_of_getElem? hk)
theorem Box9.same {W W' : World} {b : Nat} {i : In} (h : Box9 W b i) (e : W'.heap[b]? = W.heap[b]?) : Box9 W' b i := by
  have hc : ∀ j, W'.cell? ⟨b, j, none⟩ = W.cell? ⟨b, j, none⟩ := fun j => by unfold World.cell?; rw [e]
  obtain ⟨c0, c1, c2, c3, c4, c5, c6, c7, c8⟩ := h
  exact ⟨(hc 0).trans c0, (hc 1).trans c1, (hc 2).trans c2, (hc 3).trans c3, (hc 4).trans c4, (hc 5).trans c5, (hc 6).trans c6, (hc 7).trans c7, (hc 8).trans c8⟩
theorem bkkeep {w w' : World} {p : Addr} {u : Value} (h : w.cell? p = some u) (he : Ext w w') : w'.cell? p = some u := he.cell h
/-- A block as the call hands it back. -/
def BkPost (w : World) (B : Bs) (e : Ending) (w' : World) : Prop :=
  Ext w w' ∧ ∃ v1 v2 v3, e = .returned (.agg #[.int .u32 B.addr, .int .u32 B.end_, v1, v2, v3]) ∧ Sl insR w' (fun b => w.heap.size ≤ b) v1 B.ins ∧ Sl u32R w' (fun b => w.heap.size ≤ b) v2 B.succ ∧ Sl u32sR w' (fun b => w.heap.size ≤ b) v3 B.calls ∧ B.addr < 4294967296 ∧ B.end_ < 4294967296
theorem bk_eq {ins : List In} {ld : List Nat} {tabs : List (List Nat)} {at_ : List Nat} {a0 : Nat} {i : In} {acc : List In} (h : blkFrom ins ld a0 = acc ++ [i]) : blockBs ins ld tabs at_ a0 = ⟨a0, nextI i, acc ++ [i], succL ins tabs at_ i, callsL tabs at_ (acc ++ [i])⟩ := by
  unfold blockBs
  rw [h]
  simp
/-- What the block found so far leads to. -/
structure BkI (ins : List In) (ld : List Nat) (tabs : List (List Nat)) (at_ : List Nat) (a0 a : Nat) (acc : List In) (cl : List (List Nat)) : Prop where
  here : ∃ i, firstIn ins a = some i
  all : acc ++ blkFrom ins ld a = blkFrom ins ld a0
  calls : cl = callsL tabs at_ acc
  len : acc.length ≤ a
  lt : a < 4294967296

set_option maxRecDepth 100000 in
set_option maxHeartbeats 4000000 in
theorem block_any (w : World) (mb q : Nat) (T Q L : Option Addr) (nt ct nq cq nl cl' a0 : Nat) (ins : List In) (ld : List Nat) (tabs : List (List Nat)) (at_ : List Nat)
    (hm : MapG (u32K Try.underlying39) w mb q (insF ins)) (ht : Sl u32sR w All (.slice T nt ct) tabs) (hq : Sl u32R w All (.slice Q nq cq) at_) (hl : Sl u32R w All (.slice L nl cl') ld) (hp : ld.Pairwise (· < ·)) (hnl : nl ≤ 1000000) (hnq : nq ≤ 9223372036854775807)
    (hok : ∀ i ∈ ins, InOk i) (htl : ∀ t ∈ tabs, t.length ≤ 1000) (ha0 : a0 < 4294967296) (hi0 : ∃ i, firstIn ins a0 = some i) :
    Calls Try.prog 29 #[.agg #[.map (some mb), .slice T nt ct, .slice Q nq cq], .int .u32 a0, .slice L nl cl'] w (BkPost w (blockBs ins ld tabs at_ a0)) := by
  obtain ⟨i0, hif, hz0, hz1, hz2⟩ := info_parts info_insn
  obtain ⟨k0, hkf, hk0, hk1, hk2⟩ := info_parts info_w32
  have HKF := hid hkf
  have HK0 := hid hk0
  have HK1 := hid hk1
  have HK2 := hid hk2
  clear hkf hk0 hk1 hk2
  obtain ⟨j0, hjf, hy0, hy1, hy2⟩ := info_parts info_u32s
  have hta := table_any
  have htg := targets_any
  have hbs := bsearch_any
  have hnx := isanext_any
  have hce := cfends_any
  have hie := isaends_any
  have hcl := clone32_any
  obtain ⟨W0, hW0⟩ : ∃ W0, (((w.alloc (.cells #[.map (some mb), .slice T nt ct, .slice Q nq cq] 65)).alloc (.cells #[.int .u32 0, .int .u32 0, .slice none 0 0, .slice none 0 0, .slice none 0 0] 41)).alloc (.cells #[.int .u32 0, .int .u32 0, .slice none 0 0, .slice none 0 0, .slice none 0 0] 41)) = W0 := ⟨_, rfl⟩
  have hE : Ext w W0 := by rw [← hW0]; exact (((Ext.refl w).alloc _).alloc _).alloc _
  have hB0 : Box5 W0 (w.heap.size + 1 + 1) (.int .u32 0) (.int .u32 0) (.slice none 0 0) (.slice none 0 0) (.slice none 0 0) := by
    rw [← hW0]
    exact ⟨by simp [go_sem], by simp [go_sem], by simp [go_sem], by simp [go_sem], by simp [go_sem], fun i => by simp [go_sem]⟩
  obtain ⟨W1, hW1⟩ : ∃ W1, W0.setCell ⟨w.heap.size + 1 + 1, 0, none⟩ (.int .u32 a0) = W1 := ⟨_, rfl⟩
  have hB1 : Box5 W1 (w.heap.size + 1 + 1) (.int .u32 a0) (.int .u32 0) (.slice none 0 0) (.slice none 0 0) (.slice none 0 0) := by rw [← hW1]; exact hB0.put0 _
  have hS0 : BkS w W1 (.map (some mb)) (.slice T nt ct) (.slice Q nq cq) a0 0 (.slice none 0 0) (.slice none 0 0) [] [] := by
    refine ⟨by rw [← hW1]; exact hE.setCell (by show w.heap.size ≤ w.heap.size + 1 + 1; omega) _, by rw [← hW1, ← hW0]; simp [go_sem, World.cell?_setCell_other], by rw [← hW1, ← hW0]; simp [go_sem, World.cell?_setCell_other], by rw [← hW1, ← hW0]; simp [go_sem, World.cell?_setCell_other], ?_, hB1, OwnS.nil, OwnS.nil⟩
    rw [← hW1]
    refine Box5.far ?_ (by show w.heap.size + 1 + 1 ≠ w.heap.size + 1; omega)
    rw [← hW0]
    exact ⟨by simp [go_sem], by simp [go_sem], by simp [go_sem], by simp [go_sem], by simp [go_sem], fun i => by simp [go_sem]⟩
  obtain ⟨b0, b1, b2, b3, b4, bf⟩ := hB0
  obtain ⟨d0, d1, d2, d3, d4, df⟩ := hB1
  have hr1 : W1.setCell ⟨w.heap.size + 1 + 1, 1, none⟩ (.int .u32 0) = W1 := by rw [← hW1, ← hW0]; simp [go_sem]
  have hr2 : W1.setCell ⟨w.heap.size + 1 + 1, 2, none⟩ (.slice none 0 0) = W1 := by rw [← hW1, ← hW0]; simp [go_sem]
  have hr3 : W1.setCell ⟨w.heap.size + 1 + 1, 3, none⟩ (.slice none 0 0) = W1 := by rw [← hW1, ← hW0]; simp [go_sem]
  have hr4 : W1.setCell ⟨w.heap.size + 1 + 1, 4, none⟩ (.slice none 0 0) = W1 := by rw [← hW1, ← hW0]; simp [go_sem]
  have HS0 := hid hS0
  have HI0 : Hid (BkI ins ld tabs at_ a0 a0 [] []) := hid ⟨hi0, rfl, rfl, by simp, ha0⟩
  have HIF := hid hif
  have HJF := hid hjf
  have HZ0 := hid hz0
  have HZ1 := hid hz1
  have HZ2 := hid hz2
  have HY0 := hid hy0
  have HY1 := hid hy1
  have HY2 := hid hy2
  clear hif hjf hz0 hz1 hz2 hy0 hy1 hy2 hE hS0 hi0
  have HM := hid hm
  clear hm
  go_enter Try.func29, Try.ntmps29
  go_upto_block 0 with fail
  go_cut [1] from 8 to 84 (fun s1 wx => ∃ (i : In) (acc : List In) (cl : List (List Nat)) (A1 : Option Addr) (c1 : Nat) (A3 : Option Addr) (c3 : Nat), Hid (BkS w wx (.map (some mb)) (.slice T nt ct) (.slice Q nq cq) a0 (nextI i) (.slice A1 (acc ++ [i]).length c1) (.slice A3 cl.length c3) (acc ++ [i]) cl) ∧ Hid (InOk i) ∧ Hid (blkFrom ins ld a0 = acc ++ [i] ∧ cl = callsL tabs at_ (acc ++ [i])))
  case first =>
    go_wp2
    clear hW0 hW1 b0 b1 b2 b3 b4 bf d0 d1 d2 d3 d4 df hr1 hr2 hr3 hr4
    go_loopw [1] (fun s1 wr => ∃ (a e : Nat) (acc : List In) (cl : List (List Nat)) (A1 : Option Addr) (c1 : Nat) (A3 : Option Addr) (c3 : Nat), s1 = .int .u32 a ∧ a < 4294967296 ∧ Hid (BkS w wr (.map (some mb)) (.slice T nt ct) (.slice Q nq cq) a0 e (.slice A1 acc.length c1) (.slice A3 cl.length c3) acc cl) ∧ Hid (BkI ins ld tabs at_ a0 a acc cl)) (fun s1 _ => 4294967296 - (intOf s1).toNat)
    case atStart => exact ⟨a0, 0, [], [], none, 0, none, 0, rfl, ha0, HS0, HI0⟩
    case round =>
      obtain ⟨a, e, acc, cl, A1, c1, A3, c3, rfl, ha, hS, hI⟩ := hrel
      obtain ⟨i, hi⟩ := hI.out.here
      have HMr := hid (HM.out.ext hS.out.ext)
      have hf1 : (insF ins a).getD (inV In.zero) = .agg #[.int .u32 i.addr, .int .u32 i.imm, .int .i64 i.op, .int .i64 i.form, .int .i64 i.width, .int .i64 i.cc, .int .i64 i.a, .int .i64 i.b, .int .i64 i.size] := by unfold insF; rw [hi]; rfl
      have HF1 := hid hf1
      have HOK := hid (hok i (firstIn_addr hi).2)
      have HIF1 := hid hi
      obtain ⟨W1, hW1⟩ : ∃ W1, wr.alloc (.cells #[.int .u32 i.addr, .int .u32 i.imm, .int .i64 i.op, .int .i64 i.form, .int .i64 i.width, .int .i64 i.cc, .int .i64 i.a, .int .i64 i.b, .int .i64 i.size] 61) = W1 := ⟨_, rfl⟩
      have hE1 : Ext wr W1 := by rw [← hW1]; exact (Ext.refl wr).alloc _
      have HE1 := hid hE1
      have HB9 : Hid (Box9 W1 wr.heap.size i) := hid (by rw [← hW1]; exact Box9.new wr i _)
      have HZ : Hid (W1.heap.size = wr.heap.size + 1) := hid (by rw [← hW1]; simp)
      have HS1 := hid (hS.out.more hE1)
      have HLA := hid hI.out.len
      obtain ⟨c0, c1', c2, c3', c4, c5, c6, c7, c8⟩ := HB9.out
      have m0 := hS.out.m0
      obtain ⟨x0, x1, x2, x3, x4, xf⟩ := HS1.out.bx
      rw [show w.heap.size + 2 = w.heap.size + 1 + 1 from rfl] at x0 x1 x2 x3 x4 xf
      clear hf1 hi hE1
      go_upto_region 4 with (first
        | (at_lookup; refine wpList_look _ rfl (.tmp 24) (.tmp 25) 63 rfl 61 Try.underlying63 (inV In.zero) (zero_in _) (u32K Try.underlying39) mb q (insF ins) rfl HMr.out a rfl ha _ HF1.out ?_)
        | (at_builtin; refine wpList_app1l rfl (.tmp 28) (.tmp 30) 22 rfl (w.heap.size + 3) 61 i0 _ 9 64 Try.underlying22 HIF.out HZ0.out HZ1.out HZ2.out rfl insR rfl (.slice A1 acc.length c1) acc rfl HS1.out.own1 W1.heap.size rfl i rfl ⟨rfl, HOK.out⟩ (by have := HLA.out; omega) (by have := HLA.out; omega) (by have := HS1.out.bx.lt; omega) ?_; intro A5 c5' w5 hown5 hg5 hl5; have HO5 := hid hown5; have HG5 := hid hg5; have HL5 := hid hl5; clear hown5 hg5 hl5; have xb := (hS.out.bx.ext (HE1.out.alloc _)).grown HG5.out (fun e => by have := (HS1.out.own1.block _ e.symm).1; omega); have x2 := xb.c2; have xf := xb.fz 2; rw [show w.heap.size + 2 = w.heap.size + 1 + 1 from rfl] at x2 xf; clear xb)
        | fail)
      clear x0 x1 x2 x3 x4 xf m0 c0 c1' c2 c3' c4 c5 c6 c7 c8 hW1
      obtain ⟨W6, hW6⟩ : ∃ W6, w5.setCell ⟨w.heap.size + 1 + 1, 2, none⟩ (.slice A5 (acc.length + 1) c5') = W6 := ⟨_, rfl⟩
      have HS6 : Hid (BkS w W6 (.map (some mb)) (.slice T nt ct) (.slice Q nq cq) a0 e (.slice A5 (acc.length + 1) c5') (.slice A3 cl.length c3) (acc ++ [i]) cl) := hid (by rw [← hW6]; exact HS1.out.addIns HO5.out HG5.out HL5.out)
      have hB6 : Box9 W6 wr.heap.size i := by
        have hlt := hS.out.bx.lt
        refine HB9.out.same ?_
        rw [← hW6]
        refine (Below.heap_setCell _ _ _ _ (by show wr.heap.size ≠ w.heap.size + 1 + 1; omega)).trans ((HG5.out.block _ (by have := HZ.out; simp; omega) (fun e => ?_)).trans (Below.heap_alloc _ _ _ (by have := HZ.out; omega)))
        have h1 := (hS.out.own1.block _ e.symm).2
        omega
      rw [hW6]
      have HB6 := hid hB6
      obtain ⟨c0, c1', c2, c3', c4, c5, c6, c7, c8⟩ := hB6
      clear hW6 HO5 HG5 HL5 HB9 HZ
      go_upto_if 35 with fail
      go_cut [9, 10] from 35 to 49 (fun s9 s10 wx => ∃ (A7 : Option Addr) (c7 : Nat), Hid (BkS w wx (.map (some mb)) (.slice T nt ct) (.slice Q nq cq) a0 e (.slice A5 (acc.length + 1) c5') (.slice A7 (callsL tabs at_ (acc ++ [i])).length c7) (acc ++ [i]) (callsL tabs at_ (acc ++ [i]))) ∧ Hid (Box9 wx wr.heap.size i))
      case first =>
        by_cases h24 : i.op = 24
        · have h24b : (i.op == 24) = true := by simpa using h24
          have H24 := hid h24
          have hcl2 := callsL_hit (tabs := tabs) (at_ := at_) (l := acc) h24
          have htl2 := tab_len htl at_ i.addr
          have HTA := hid (hta All w W6 HS6.out.ext (some mb) T Q nt ct nq cq tabs at_ ht hq hnq i.addr)
          obtain ⟨tr, htr⟩ : ∃ tr, tabOf tabs at_ i.addr = tr := ⟨_, rfl⟩
          rw [htr] at HTA hcl2 htl2
          obtain ⟨R, hR⟩ : ∃ R, tr.getD [] = R := ⟨_, rfl⟩
          have HR := hid hR
          rw [hR] at hcl2 htl2
          have HCL2 := hid hcl2
          have HTL2 := hid htl2
          have m0 := HS6.out.m0
          have m1 := HS6.out.m1
          have m2 := HS6.out.m2
          clear h24 htr hR hcl2 htl2
          go_wp2_with fail
          refine (HTA.out).mono ?_
          rintro ee w7 ⟨hx7, AT, cT, rfl, hsT⟩
          obtain ⟨bT, hbT⟩ : ∃ b, tr.isSome = b := ⟨_, rfl⟩
          rw [HR.out] at hsT ⊢
          rw [hbT]
          have HX7 := hid hx7
          have HST := hid hsT
          have HS7 := hid (HS6.out.more hx7)
          clear hx7 hsT hbT m0 m1 m2 c0 c1' c2 c3' c4 c5 c6 c7 c8
          have HS8 := hid (HS7.out.more (Ext.refl w7).drew)
          have HCLN := hid (hcl w7.drew All AT R.length cT R (HST.out.ext (HS8.out.ext)) (by have := HTL2.out; omega))
          have hlen : cl.length ≤ 4294967296 := by
            have h1 := callsL_len tabs at_ acc
            rw [← hI.out.calls] at h1
            have := HLA.out
            omega
          have x4 := HS7.out.bx.c4
          rw [show w.heap.size + 2 = w.heap.size + 1 + 1 from rfl] at x4
          go_wp2_with fail
          refine wp_region_split 7 (by kernel_rfl) rfl rfl (by kernel_rfl) (fun w' => w'.cell? ⟨w.heap.size + 1 + 1, 4, none⟩ = some (.slice A3 cl.length c3)) x4 (fun hSg1q0 => ?_)
          refine wpAnyH_takeL (i := 0) (v := ?g1qv0) rfl (by kernel_rfl) (by kernel_rfl) (by kernel_rfl) (fun _ _ _ h => h) (Or.inl ⟨by rfl, ?g1qy0⟩) (by assumption) ?g1qr0
          case g1qy0 => first | (intro w hSw; (try dsimp only at hSw); go_simp; done) | (intro w hSw; (try dsimp only at hSw); go_simp; with_reducible rfl)
          case' g1qr0 => try simp only [Act.put, List.setIfInBounds_toArray, List.set_cons_zero, List.set_cons_succ]
          refine wpAnyH_takeL (i := 1) (v := ?g1qv1) rfl (by kernel_rfl) (by kernel_rfl) (by kernel_rfl) (fun _ _ _ h => h) (Or.inl ⟨by rfl, ?g1qy1⟩) (by assumption) ?g1qr1
          case g1qy1 => first | (intro w hSw; (try dsimp only at hSw); go_simp; done) | (intro w hSw; (try dsimp only at hSw); go_simp; with_reducible rfl)
          case' g1qr1 => try simp only [Act.put, List.setIfInBounds_toArray, List.set_cons_zero, List.set_cons_succ]
          refine wpAnyH_takeL (i := 2) (v := ?g1qv2) rfl (by kernel_rfl) (by kernel_rfl) (by kernel_rfl) (fun _ _ _ h => h) (Or.inl ⟨by rfl, ?g1qy2⟩) (by assumption) ?g1qr2
          case g1qy2 => first | (intro w hSw; (try dsimp only at hSw); go_simp; done) | (intro w hSw; (try dsimp only at hSw); go_simp; with_reducible rfl)
          case' g1qr2 => try simp only [Act.put, List.setIfInBounds_toArray, List.set_cons_zero, List.set_cons_succ]
          refine wpAnyH_ready (rs := [3]) (by kernel_rfl) (by simp) ?_
          refine AllReadyH.consL rfl (fun K hK => ?_) AllReadyH.nil
          go_simp
          go_at_call 52
          refine (HCLN.out).mono ?_
          rintro e8 w8 ⟨hx8, A8, c8, rfl, ho8⟩
          have HX8 := hid hx8
          have HR8 := hid (HS8.out.rowOk hx8 ho8)
          have HS9 := hid (HS8.out.more hx8)
          clear hx8 ho8
          refine hK.out _ _ (HX8.out.drew_left.cell x4) (fun hSg1q1 => ?_)
          clear hK K
          try simp only [Act.put, List.setIfInBounds_toArray, List.set_cons_zero, List.set_cons_succ]
          refine wpAnyH_ready (rs := [4]) (by kernel_rfl) (by simp) ?_
          refine AllReadyH.consL rfl (fun K hK => ?_) AllReadyH.nil
          go_simp
          refine hK.out _ _ ((HX8.out.drew_left.alloc _).cell x4) (fun hSg1q2 => ?_)
          clear hK K
          try simp only [Act.put, List.setIfInBounds_toArray, List.set_cons_zero, List.set_cons_succ]
          refine wpAnyH_ready (rs := [5]) (by kernel_rfl) (by simp) ?_
          refine AllReadyH.consL rfl (fun K hK => ?_) AllReadyH.nil
          refine step_app1 rfl (.tmp 44) (.tmp 47) 26 rfl (w.heap.size + 3) 23 j0 _ 1 24 Try.underlying26 HJF.out HY0.out HY1.out HY2.out rfl u32sR rfl (.slice A3 cl.length c3) cl rfl HS9.out.own3 R rfl ⟨_, rfl, HR8.out⟩ (by omega) (by omega) (by have := HS9.out.bx.lt; omega) ?_
          intro A9 c9 w9 hown9 hg9
          have xb := (HS9.out.bx.ext ((Ext.refl w8).alloc _)).grown hg9 (fun e => by have := (HS9.out.own3.block _ e.symm).1; omega)
          have x49 := xb.c4
          have xf9 := xb.fz 4
          rw [show w.heap.size + 2 = w.heap.size + 1 + 1 from rfl] at x49 xf9
          have HO9 := hid hown9
          have HG9 := hid hg9
          clear hown9 hg9 xb
          refine hK.out _ _ x49 (fun hSg1q3 => ?_)
          clear hK K
          try simp only [Act.put, List.setIfInBounds_toArray, List.set_cons_zero, List.set_cons_succ]
          refine wpAnyH_takeL (i := 6) (v := ?g1qv6) rfl (by kernel_rfl) (by kernel_rfl) (by kernel_rfl) (fun _ _ _ h => h) (Or.inl ⟨by rfl, ?g1qy6⟩) (by assumption) ?g1qr6
          case g1qy6 => first | (intro w hSw; (try dsimp only at hSw); go_simp; done) | (intro w hSw; (try dsimp only at hSw); go_simp; with_reducible rfl)
          case' g1qr6 => try simp only [Act.put, List.setIfInBounds_toArray, List.set_cons_zero, List.set_cons_succ]
          refine wpAnyH_done (by kernel_rfl) ?_ _
          change wpList _ _ _ _ _ _
          go_wp2
          go_meet
          have HSA := hid (HS9.out.addCall HO9.out HG9.out)
          have h8 := (HB6.out.ext HX7.out).ext HX8.out.drew_left
          have hlt8 := World.block_lt_of_cell? _ _ h8.c0
          have hlt := hS.out.bx.lt
          have he := HCL2.out
          rw [← hI.out.calls] at he
          refine ⟨A9, c9, ?_, hid (h8.same ?_)⟩
          · rw [he]
            simpa using HSA
          · refine (Below.heap_setCell _ _ _ _ (by show wr.heap.size ≠ w.heap.size + 1 + 1; omega)).trans ((HG9.out.block _ (by have : wr.heap.size < w8.heap.size := hlt8; simp; omega) (fun e => ?_)).trans (Below.heap_alloc _ _ _ hlt8))
            have h1 := (hS.out.own3.block _ e.symm).2
            omega
        · have h24b : (i.op == 24) = false := by simpa using h24
          have H24 := hid h24
          clear h24
          go_wp2
          go_meet
          refine ⟨A3, c3, ?_, HB6⟩
          rw [callsL_miss H24.out, ← hI.out.calls]
          exact HS6
      case rest =>
        obtain ⟨A7, c7, hS7, hB7⟩ := hcut
        have HNX := hid (hnx wc i HOK.out)
        have m0 := hS7.out.m0
        obtain ⟨x0, x1, x2, x3, x4, xf⟩ := hS7.out.bx
        rw [show w.heap.size + 2 = w.heap.size + 1 + 1 from rfl] at x0 x1 x2 x3 x4 xf
        obtain ⟨c0, c1', c2, c3', c4, c5, c6, c7', c8⟩ := hB7.out
        clear x0 x2 x3 x4
        have e9 : inV i = .agg #[.int .u32 i.addr, .int .u32 i.imm, .int .i64 i.op, .int .i64 i.form, .int .i64 i.width, .int .i64 i.cc, .int .i64 i.a, .int .i64 i.b, .int .i64 i.size] := rfl
        rw [e9] at HNX
        clear e9
        obtain ⟨nx, hnx'⟩ : ∃ nx, nextI i = nx := ⟨_, rfl⟩
        have hnlt := nextI_lt i
        rw [hnx'] at HNX hnlt
        have HNXE := hid hnx'
        clear hnx'
        go_wp2_with fail
        refine (HNX.out).mono ?_
        rintro e8 w8 ⟨rfl, hx8⟩
        have HS8 := hid (hS7.out.more hx8)
        have HB8 := hid (hB7.out.ext hx8)
        have x1 := hx8.cell x1
        have xf : w8.frozen? ⟨w.heap.size + 1 + 1, 1, none⟩ = false := HS8.out.bx.fz 1
        clear m0 c0 c1' c2 c3' c4 c5 c6 c7' c8 hx8
        go_upto_region 8 with fail
        obtain ⟨W9, hW9⟩ : ∃ W9, w8.setCell ⟨w.heap.size + 1 + 1, 1, none⟩ (.int .u32 nx) = W9 := ⟨_, rfl⟩
        have HS9 := hid (show BkS w W9 _ _ _ _ _ _ _ _ _ from by rw [← hW9]; exact HS8.out.setEnd nx)
        have HB9 := hid (show Box9 W9 wr.heap.size i from HB8.out.same (by rw [← hW9]; exact Below.heap_setCell _ _ _ _ (by have := hS.out.bx.lt; show wr.heap.size ≠ w.heap.size + 1 + 1; omega)))
        rw [hW9]
        clear hW9 x1 xf
        have m0 := HS9.out.m0
        have x1 := HS9.out.bx.c1
        have xf := HS9.out.bx.fz 1
        rw [show w.heap.size + 2 = w.heap.size + 1 + 1 from rfl] at x1 xf
        have HM9 := hid (HM.out.ext HS9.out.ext)
        obtain ⟨y, hy⟩ : ∃ y, (insF ins nx).getD (inV In.zero) = inV y := by
          unfold insF
          cases firstIn ins nx with
          | none => exact ⟨In.zero, rfl⟩
          | some z => exact ⟨z, rfl⟩
        obtain ⟨f, hf⟩ : ∃ f, hasIn ins nx = f := ⟨_, rfl⟩
        have hf2 : (insF ins nx).isSome = f := by rw [← hf]; unfold insF hasIn; cases firstIn ins nx <;> rfl
        have hf1 : (insF ins nx).getD (inV In.zero) = .agg #[.int .u32 y.addr, .int .u32 y.imm, .int .i64 y.op, .int .i64 y.form, .int .i64 y.width, .int .i64 y.cc, .int .i64 y.a, .int .i64 y.b, .int .i64 y.size] := hy
        have HFY1 := hid hf1
        have HFY2 := hid hf2
        have HFF := hid hf
        obtain ⟨W10, hW10⟩ : ∃ W10, W9.alloc (.cells #[.int .u32 y.addr, .int .u32 y.imm, .int .i64 y.op, .int .i64 y.form, .int .i64 y.width, .int .i64 y.cc, .int .i64 y.a, .int .i64 y.b, .int .i64 y.size] 61) = W10 := ⟨_, rfl⟩
        have hE10 : Ext W9 W10 := by rw [← hW10]; exact (Ext.refl W9).alloc _
        have HS10 := hid (HS9.out.more hE10)
        have HB10 := hid (HB9.out.ext hE10)
        have HBS := hid (hbs W10 L nl cl' ld (hl.ext HS10.out.ext) hp hnl nx)
        obtain ⟨lb, hlb⟩ : ∃ lb, ld.contains nx = lb := ⟨_, rfl⟩
        rw [hlb] at HBS
        have HLB := hid hlb
        have y1 := hE10.cell x1
        clear hf1 hf2 hf hy hlb hE10
        go_wp2_with (first
          | (at_lookup; refine wpList_lookOk _ rfl (.tmp 55) (.tmp 57) 63 rfl 61 Try.underlying63 (inV In.zero) (zero_in _) (u32K Try.underlying39) mb q (insF ins) rfl HM9.out nx rfl hnlt _ HFY1.out f HFY2.out ?_)
          | fail)
        refine (HBS.out).mono ?_
        rintro e11 w11 ⟨⟨ix, rfl⟩, rfl⟩
        clear hW10 m0 x1 xf
        go_upto_region 10 with fail
        have HCE := hid (hce W10 i)
        have e9 : inV i = .agg #[.int .u32 i.addr, .int .u32 i.imm, .int .i64 i.op, .int .i64 i.form, .int .i64 i.width, .int .i64 i.cc, .int .i64 i.a, .int .i64 i.b, .int .i64 i.size] := rfl
        rw [e9] at HCE
        clear e9
        obtain ⟨c0, c1', c2, c3', c4, c5, c6, c7', c8⟩ := HB10.out
        obtain ⟨sb, hsb⟩ : ∃ sb, stopB ins ld a i = sb := ⟨_, rfl⟩
        have HSB := hid hsb
        obtain ⟨st, hst⟩ : ∃ st, stopsI i = st := ⟨_, rfl⟩
        rw [hst] at HCE
        have HSB2 : Hid (sb = (st || (lb || (!f || decide (nx ≤ a))))) := hid (by rw [← hsb, ← hst, ← HLB.out, ← HFF.out, ← HNXE.out]; rfl)
        clear hsb hst
        go_cut [82] from 68 to 82 (fun s82 wx => s82 = .bool sb ∧ Hid (Ext W10 wx))
        case first =>
          go_wp2_with fail
          refine (HCE.out).mono ?_
          rintro e12 w12 ⟨rfl, hx12⟩
          have y1 := hx12.cell y1
          have HX12 := hid hx12
          clear hx12 c0 c1' c2 c3' c4 c5 c6 c7' c8
          cases st with
          | true =>
            go_wp2
            go_meet
            exact ⟨by rw [HSB2.out]; rfl, HX12⟩
          | false =>
            cases lb with
            | true =>
              go_wp2
              go_meet
              exact ⟨by rw [HSB2.out]; rfl, HX12⟩
            | false =>
              cases f with
              | false =>
                go_wp2
                go_meet
                exact ⟨by rw [HSB2.out]; rfl, HX12⟩
              | true =>
                go_wp2
                go_meet
                refine ⟨?_, HX12⟩
                rw [HSB2.out]
                simp
        case rest =>
          obtain ⟨rfl, hx12⟩ := hcut
          clear c0 c1' c2 c3' c4 c5 c6 c7' c8
          have y1 := hx12.out.cell y1
          have HS12 := hid (HS10.out.more hx12.out)
          cases sb with
          | true =>
            clear y1
            go_wp2
            go_meet
            refine ⟨i, acc, callsL tabs at_ (acc ++ [i]), A5, c5', A7, c7, ?_, HOK, hid ⟨?_, rfl⟩⟩
            · rw [HNXE.out]
              simpa using HS12
            · rw [← hI.out.all, blkFrom_stop ha HIF1.out HSB.out]
          | false =>
            go_wp2
            first
              | go_roundw
              | refine ⟨?rel, ?measure⟩
            case rel =>
              have hgt := (stopB_next HSB.out).1
              rw [HNXE.out] at hgt
              refine ⟨nx, nx, acc ++ [i], callsL tabs at_ (acc ++ [i]), A5, c5', A7, c7, rfl, hnlt, by simpa using HS12, hid ⟨?_, ?_, rfl, ?_, hnlt⟩⟩
              · have := (stopB_next HSB.out).2
                rw [HNXE.out] at this
                exact Option.isSome_iff_exists.1 this
              · rw [← hI.out.all, blkFrom_next ha HIF1.out HSB.out, HNXE.out]
                simp
              · have := HLA.out
                simp
                omega
            case measure =>
              have hgt := (stopB_next HSB.out).1
              rw [HNXE.out] at hgt
              simp [intOf]
              omega
  case rest =>
    clear hW0 hW1 b0 b1 b2 b3 b4 bf d0 d1 d2 d3 d4 df hr1 hr2 hr3 hr4
    obtain ⟨i, acc, cl, A1, c1, A3, c3, hS, hOK, hP⟩ := hcut
    have hS' := hS.out
    rw [List.length_append, List.length_singleton] at hS'
    obtain ⟨bI, offI, rfl, -, q0, q1, q2, q3, q4, q5, q6, q7, q8⟩ := Sl.in_at (A := A1) (n := acc.length + 1) (c := c1) (k := acc.length) (l := acc ++ [i]) hS'.own1.sl (show (acc ++ [i])[acc.length]? = some i by simp)
    have HS := hid hS'
    obtain ⟨m, hm⟩ : ∃ m, acc.length = m := ⟨_, rfl⟩
    rw [hm] at HS q0 q1 q2 q3 q4 q5 q6 q7 q8
    have HM2 := hid hm
    have HCAP := hid hS'.own1.sl.cap
    obtain ⟨x0, x1, x2, x3, x4, xf⟩ := HS.out.bx
    rw [show w.heap.size + 2 = w.heap.size + 1 + 1 from rfl] at x0 x1 x2 x3 x4 xf
    clear hS hS' hm x0 x1 x3 x4 xf
    obtain ⟨W1, hW1⟩ : ∃ W1, wc.alloc (.cells #[.int .u32 i.addr, .int .u32 i.imm, .int .i64 i.op, .int .i64 i.form, .int .i64 i.width, .int .i64 i.cc, .int .i64 i.a, .int .i64 i.b, .int .i64 i.size] 61) = W1 := ⟨_, rfl⟩
    have hE1 : Ext wc W1 := by rw [← hW1]; exact (Ext.refl wc).alloc _
    have HB9 : Hid (Box9 W1 wc.heap.size i) := hid (by rw [← hW1]; exact Box9.new wc i _)
    have HS1 := hid (HS.out.more hE1)
    have HE1 := hid hE1
    clear hE1
    have hmc : m ≤ 9223372036854775806 := by have := HCAP.out; have := HM2.out; omega
    have hwm : wrap64 (m : Int) = m := IntWalk.wrap64_in _ (by omega)
    go_upto_region 13 with fail
    clear hwm
    clear q0 q1 q2 q3 q4 q5 q6 q7 q8 x2 hW1
    have m0 := HS1.out.m0
    have m1 := HS1.out.m1
    have m2 := HS1.out.m2
    obtain ⟨c0, c1', c2, c3', c4, c5, c6, c7', c8⟩ := HB9.out
    have HTG := hid (htg All W1 (some mb) T Q nt ct nq cq tabs at_ (ht.ext HS1.out.ext) (hq.ext HS1.out.ext) hnq i hOK.out)
    have e9 : inV i = .agg #[.int .u32 i.addr, .int .u32 i.imm, .int .i64 i.op, .int .i64 i.form, .int .i64 i.width, .int .i64 i.cc, .int .i64 i.a, .int .i64 i.b, .int .i64 i.size] := rfl
    have HIE := hid (fun W => hie W i)
    rw [e9] at HTG HIE
    clear e9
    obtain ⟨R, hR⟩ : ∃ R, tgtI tabs at_ i = R := ⟨_, rfl⟩
    have hRL : R.length ≤ 1000 := by
      rw [← hR]
      unfold tgtI
      split
      · simp
      · split
        · exact tab_len htl at_ i.addr
        · simp
    rw [hR] at HTG
    have HR := hid hR
    obtain ⟨en, hen⟩ : ∃ en, endsI i = en := ⟨_, rfl⟩
    rw [hen] at HIE
    have HEN := hid hen
    clear hR hen
    go_wp2_with fail
    refine (HTG.out).mono ?_
    rintro e2 w2 ⟨hx2, AT, cT, rfl, hsT, -⟩
    have HS2 := hid (HS1.out.more hx2)
    have HST := hid hsT
    have c0 := hx2.cell c0
    have c1' := hx2.cell c1'
    have c2 := hx2.cell c2
    have c3' := hx2.cell c3'
    have c4 := hx2.cell c4
    have c5 := hx2.cell c5
    have c6 := hx2.cell c6
    have c7' := hx2.cell c7'
    have c8 := hx2.cell c8
    clear m0 m1 m2 hx2 hsT HTG
    go_wp2_with fail
    refine (HIE.out w2).mono ?_
    rintro e3 w3 ⟨rfl, hx3⟩
    have HS3 := hid (HS2.out.more hx3)
    have HST3 := hid (HST.out.ext hx3)
    clear hx3 c0 c1' c2 c3' c4 c5 c6 c7' c8
    go_upto_if 98 with fail
    obtain ⟨Z, hZ⟩ : ∃ Z, R ++ (if en then [] else [nextI i]) = Z := ⟨_, rfl⟩
    have HZ := hid hZ
    clear hZ
    go_cut [16] from 99 to 104 (fun s16 wx => ∃ (AZ : Option Addr) (cZ : Nat), s16 = .slice AZ Z.length cZ ∧ Hid (Sl u32R wx All (.slice AZ Z.length cZ) Z) ∧ Hid (Ext w3 wx))
    case first =>
      cases en with
      | true =>
        go_wp2
        go_meet
        have e := HZ.out
        simp at e
        rw [← e]
        exact ⟨AT, cT, rfl, HST3, hid (Ext.refl _)⟩
      | false =>
        have x1 := HS3.out.bx.c1
        rw [show w.heap.size + 2 = w.heap.size + 1 + 1 from rfl] at x1
        have hnlt := nextI_lt i
        obtain ⟨nx, hnx'⟩ : ∃ nx, nextI i = nx := ⟨_, rfl⟩
        rw [hnx'] at x1 HZ hnlt
        clear hnx'
        go_wp2_with fail
        have HXg2q_0 := hid ((Ext.refl w3).drew)
        refine wp_region_held_drew (S := (fun w' => w'.cell? ⟨w.heap.size + 1 + 1, 1, none⟩ = some (.int .u32 nx))) (by kernel_rfl) x1 (fun hSg2q0 => ?_)
        refine wpAnyH_takeL (i := 0) (v := ?g2qv0x1) rfl (by kernel_rfl) (by kernel_rfl) (by kernel_rfl) (fun _ _ _ h => h) (Or.inl ⟨by rfl, ?g2qy0x1⟩) (by assumption) ?g2qr0x1
        case g2qy0x1 => first | (intro w hSw; (try dsimp only at hSw); go_simp; done) | (intro w hSw; (try dsimp only at hSw); go_simp; with_reducible rfl)
        case' g2qr0x1 => try simp only [Act.put, List.setIfInBounds_toArray, List.set_cons_zero, List.set_cons_succ]
        refine wpAnyH_takeL (i := 2) (v := ?g2qv2x2) rfl (by kernel_rfl) (by kernel_rfl) (by kernel_rfl) (fun _ _ _ h => h) (Or.inl ⟨by rfl, ?g2qy2x2⟩) (by assumption) ?g2qr2x2
        case g2qy2x2 => first | (intro w hSw; (try dsimp only at hSw); go_simp; done) | (intro w hSw; (try dsimp only at hSw); go_simp; with_reducible rfl)
        case' g2qr2x2 => try simp only [Act.put, List.setIfInBounds_toArray, List.set_cons_zero, List.set_cons_succ]
        refine wpAnyH_takeL (i := 3) (v := ?g2qv3x3) rfl (by kernel_rfl) (by kernel_rfl) (by kernel_rfl) (fun _ _ _ h => h) (Or.inl ⟨by rfl, ?g2qy3x3⟩) (by assumption) ?g2qr3x3
        case g2qy3x3 => first | (intro w hSw; (try dsimp only at hSw); go_simp; done) | (intro w hSw; (try dsimp only at hSw); go_simp; with_reducible rfl)
        case' g2qr3x3 => try simp only [Act.put, List.setIfInBounds_toArray, List.set_cons_zero, List.set_cons_succ]
        refine wpAnyH_ready (rs := [1, 4]) (by kernel_rfl) (by simp) ?_
        refine (AllReadyH.consL rfl (fun K hK => ?g2qb1x4) (AllReadyH.consL rfl (fun K hK => ?g2qb4x4) AllReadyH.nil))
        case' g2qb1x4 =>
          go_simp
          go_at_call 52
          refine (hcl _ All AT R.length cT R (HST3.out.ext HXg2q_0.out) (by omega)).mono ?_
          rintro e8 w8 ⟨hEg2q1, A8, c8, rfl, ho8⟩
          have HOB := hid ho8
          have HOR := hid (ho8.lower HXg2q_0.out.size)
          clear ho8
          have HXg2q_1 := hid (HXg2q_0.out.trans hEg2q1)
          clear hEg2q1
          refine hK.out _ _ (bkkeep x1 HXg2q_1.out) (fun hSg2q1 => ?_)
          clear hK K
          try simp only [Act.put, List.setIfInBounds_toArray, List.set_cons_zero, List.set_cons_succ]
          refine wpAnyH_ready (rs := [4]) (by kernel_rfl) (by simp) ?_
          refine (AllReadyH.consL rfl (fun K hK => ?g2qb4x5) AllReadyH.nil)
          case' g2qb4x5 =>
            go_simp
            try have HLT := hid (HOR.out.block)
            obtain ⟨wZ, aZ, hA, hsz, hEg2q2, hge, hob⟩ := extAllocB HXg2q_1.out (.cells #[.int .u32 nx] 39)
            refine Eq.mpr (congrArg (K _) hA) ?_
            first | rw [hsz] | (have hq : w3.heap.size = aZ := hsz; rw [hq]; clear hq) | skip
            have HTZ := hid (lit1 hob hnlt)
            have HSZ := hid hsz
            have HTL := hid (Array.getElem?_eq_some_iff.1 hob).1
            clear hA hsz hge hob
            have HXg2q_2 := hid (HXg2q_1.out.trans hEg2q2)
            have HOR := hid (HOR.out.ext hEg2q2)
            clear hEg2q2
            refine hK.out _ _ (bkkeep x1 HXg2q_2.out) (fun hSg2q2 => ?_)
            clear hK K
            try simp only [Act.put, List.setIfInBounds_toArray, List.set_cons_zero, List.set_cons_succ]
            refine wpAnyH_ready (rs := [5]) (by kernel_rfl) (by simp) ?_
            refine (AllReadyH.consL rfl (fun K hK => ?g2qb5x6) AllReadyH.nil)
            case' g2qb5x6 =>
              refine step_appS rfl (.tmp 100) (.tmp 103) 23 rfl w3.heap.size 39 k0 _ 1 4 Try.underlying23 HKF.out HK0.out HK1.out HK2.out rfl u32R rfl (.slice A8 R.length c8) R rfl HOR.out (some ⟨aZ, 0, none⟩) 1 1 [nx] (fun d => d = aZ) rfl HTZ.out (fun d hd _ => ⟨trivial, fun e => by have hd' : d = aZ := hd; first | (have h1 := (HLT.out d e.symm).2; have h2 := HSZ.out; omega) | (have h1 := (HOB.out.block _ e.symm).1; have h2 := HTL.out; omega)⟩) (by omega) (by omega) (by exact HXg2q_2.out.size) ?_
              intro A9 c9 w9 hown9 hg9
              have HO9 := hid hown9
              have HXF := hid (HXg2q_2.out.grown hg9 (fun k hk => (HOR.out.block _ hk).1))
              have HXg2q_3 := HXF
              clear hown9 hg9
              refine hK.out _ _ (bkkeep x1 HXg2q_3.out) (fun hSg2q3 => ?_)
              clear hK K
              try simp only [Act.put, List.setIfInBounds_toArray, List.set_cons_zero, List.set_cons_succ]
              refine wpAnyH_takeL (i := 6) (v := ?g2qv6x7) rfl (by kernel_rfl) (by kernel_rfl) (by kernel_rfl) (fun _ _ _ h => h) (Or.inl ⟨by rfl, ?g2qy6x7⟩) (by assumption) ?g2qr6x7
              case g2qy6x7 => first | (intro w hSw; (try dsimp only at hSw); go_simp; done) | (intro w hSw; (try dsimp only at hSw); go_simp; with_reducible rfl)
              case' g2qr6x7 => try simp only [Act.put, List.setIfInBounds_toArray, List.set_cons_zero, List.set_cons_succ]
              refine wpAnyH_done (by kernel_rfl) ?_ _
              go_wp2
              go_meet
              have e := HZ.out
              simp at e
              refine ⟨A9, c9, ?_, ?_, HXF⟩
              · rw [← e]
                simp
              · rw [← e]
                simpa using hid HO9.out.sl
        case' g2qb4x4 =>
          go_simp
          try have HLT := hid (HOR.out.block)
          obtain ⟨wZ, aZ, hA, hsz, hEg2q1, hge, hob⟩ := extAllocB HXg2q_0.out (.cells #[.int .u32 nx] 39)
          refine Eq.mpr (congrArg (K _) hA) ?_
          first | rw [hsz] | (have hq : w3.heap.size = aZ := hsz; rw [hq]; clear hq) | skip
          have HTZ := hid (lit1 hob hnlt)
          have HSZ := hid hsz
          have HTL := hid (Array.getElem?_eq_some_iff.1 hob).1
          clear hA hsz hge hob
          have HXg2q_1 := hid (HXg2q_0.out.trans hEg2q1)
          clear hEg2q1
          refine hK.out _ _ (bkkeep x1 HXg2q_1.out) (fun hSg2q1 => ?_)
          clear hK K
          try simp only [Act.put, List.setIfInBounds_toArray, List.set_cons_zero, List.set_cons_succ]
          refine wpAnyH_ready (rs := [1]) (by kernel_rfl) (by simp) ?_
          refine (AllReadyH.consL rfl (fun K hK => ?g2qb1x8) AllReadyH.nil)
          case' g2qb1x8 =>
            go_simp
            go_at_call 52
            refine (hcl _ All AT R.length cT R (HST3.out.ext HXg2q_1.out) (by omega)).mono ?_
            rintro e8 w8 ⟨hEg2q2, A8, c8, rfl, ho8⟩
            have HOB := hid ho8
            have HOR := hid (ho8.lower HXg2q_1.out.size)
            clear ho8
            have HXg2q_2 := hid (HXg2q_1.out.trans hEg2q2)
            have HTZ := hid (HTZ.out.ext hEg2q2)
            clear hEg2q2
            refine hK.out _ _ (bkkeep x1 HXg2q_2.out) (fun hSg2q2 => ?_)
            clear hK K
            try simp only [Act.put, List.setIfInBounds_toArray, List.set_cons_zero, List.set_cons_succ]
            refine wpAnyH_ready (rs := [5]) (by kernel_rfl) (by simp) ?_
            refine (AllReadyH.consL rfl (fun K hK => ?g2qb5x9) AllReadyH.nil)
            case' g2qb5x9 =>
              refine step_appS rfl (.tmp 100) (.tmp 103) 23 rfl w3.heap.size 39 k0 _ 1 4 Try.underlying23 HKF.out HK0.out HK1.out HK2.out rfl u32R rfl (.slice A8 R.length c8) R rfl HOR.out (some ⟨aZ, 0, none⟩) 1 1 [nx] (fun d => d = aZ) rfl HTZ.out (fun d hd _ => ⟨trivial, fun e => by have hd' : d = aZ := hd; first | (have h1 := (HLT.out d e.symm).2; have h2 := HSZ.out; omega) | (have h1 := (HOB.out.block _ e.symm).1; have h2 := HTL.out; omega)⟩) (by omega) (by omega) (by exact HXg2q_2.out.size) ?_
              intro A9 c9 w9 hown9 hg9
              have HO9 := hid hown9
              have HXF := hid (HXg2q_2.out.grown hg9 (fun k hk => (HOR.out.block _ hk).1))
              have HXg2q_3 := HXF
              clear hown9 hg9
              refine hK.out _ _ (bkkeep x1 HXg2q_3.out) (fun hSg2q3 => ?_)
              clear hK K
              try simp only [Act.put, List.setIfInBounds_toArray, List.set_cons_zero, List.set_cons_succ]
              refine wpAnyH_takeL (i := 6) (v := ?g2qv6x10) rfl (by kernel_rfl) (by kernel_rfl) (by kernel_rfl) (fun _ _ _ h => h) (Or.inl ⟨by rfl, ?g2qy6x10⟩) (by assumption) ?g2qr6x10
              case g2qy6x10 => first | (intro w hSw; (try dsimp only at hSw); go_simp; done) | (intro w hSw; (try dsimp only at hSw); go_simp; with_reducible rfl)
              case' g2qr6x10 => try simp only [Act.put, List.setIfInBounds_toArray, List.set_cons_zero, List.set_cons_succ]
              refine wpAnyH_done (by kernel_rfl) ?_ _
              go_wp2
              go_meet
              have e := HZ.out
              simp at e
              refine ⟨A9, c9, ?_, ?_, HXF⟩
              · rw [← e]
                simp
              · rw [← e]
                simpa using hid HO9.out.sl
    case rest =>
      obtain ⟨AZ, cZ, rfl, hsZ, hxZ⟩ := hcut
      obtain ⟨V, hV⟩ : ∃ V, V = wc := ⟨_, rfl⟩
      subst hV
      have HSV := hid (HS3.out.more hxZ.out)
      have HT0 := hid (BkT.start HSV.out)
      obtain ⟨n, hn⟩ : ∃ n, Z.length = n := ⟨_, rfl⟩
      have hnl2 : n ≤ 1001 := by
        rw [← hn, ← HZ.out, List.length_append]
        split <;> simp <;> omega
      have HCZ := hid hsZ.out.cap
      rw [hn] at HCZ
      rw [hn]
      have HN := hid hn
      clear hn
      go_wp2
      go_loopw [107] (fun s107 wr => ∃ (k : Nat) (A2 : Option Addr) (c2 : Nat) (M : List Nat), k ≤ n ∧ s107 = .int .i64 k ∧ Hid (BkT w V.heap.size wr (.map (some mb)) a0 (nextI i) (.slice (some ⟨bI, offI, none⟩) (m + 1) c1) (.slice A2 M.length c2) (.slice A3 cl.length c3) (acc ++ [i]) cl M) ∧ Hid (KeepsI V wr) ∧ Hid (M = (Z.take k).filter (hasIn ins))) (fun s107 _ => n - (intOf s107).toNat)
      case atStart => exact ⟨0, none, 0, [], by omega, rfl, HT0, hid (fun _ _ _ h => h), hid (by simp)⟩
      case round =>
        obtain ⟨k, A2, c2, M, hk, rfl, hT, hK, hM⟩ := hrel
        by_cases h1 : k < n
        · obtain ⟨x, hx⟩ : ∃ x, Z[k]? = some x := ⟨_, List.getElem?_eq_getElem (by have := HN.out; omega)⟩
          obtain ⟨bz, oz, rfl, hvc, hx32⟩ := Sl.num_at hsZ.out hx
          have xk := hK.out _ _ _ hvc
          have HX := hid hx
          have m0 := hT.out.m0
          have HMr := hid (HM.out.ext hT.out.ext)
          obtain ⟨y, hy⟩ : ∃ y, (insF ins x).getD (inV In.zero) = inV y := by
            unfold insF
            cases firstIn ins x with
            | none => exact ⟨In.zero, rfl⟩
            | some z => exact ⟨z, rfl⟩
          obtain ⟨f, hf⟩ : ∃ f, hasIn ins x = f := ⟨_, rfl⟩
          have hf2 : (insF ins x).isSome = f := by rw [← hf]; unfold insF hasIn; cases firstIn ins x <;> rfl
          have hf1 : (insF ins x).getD (inV In.zero) = .agg #[.int .u32 y.addr, .int .u32 y.imm, .int .i64 y.op, .int .i64 y.form, .int .i64 y.width, .int .i64 y.cc, .int .i64 y.a, .int .i64 y.b, .int .i64 y.size] := hy
          have HFY1 := hid hf1
          have HFY2 := hid hf2
          have HFF := hid hf
          obtain ⟨W1, hW1⟩ : ∃ W1, wr.alloc (.cells #[.int .u32 y.addr, .int .u32 y.imm, .int .i64 y.op, .int .i64 y.form, .int .i64 y.width, .int .i64 y.cc, .int .i64 y.a, .int .i64 y.b, .int .i64 y.size] 61) = W1 := ⟨_, rfl⟩
          have hE1' : Ext wr W1 := by rw [← hW1]; exact (Ext.refl wr).alloc _
          have HT1 := hid (hT.out.more hE1')
          have HKW := hid (hK.out.more hE1')
          have x3 := HT1.out.bx.c3
          rw [show w.heap.size + 2 = w.heap.size + 1 + 1 from rfl] at x3
          have hML : M.length ≤ k := by
            rw [hM.out]
            refine Nat.le_trans (List.length_filter_le _ _) ?_
            rw [List.length_take]
            omega
          clear hf1 hf2 hf hy hvc hx hE1'
          cases f with
          | false =>
            go_wp2_with (first
              | (at_lookup; refine wpList_lookOk _ rfl (.tmp 113) (.tmp 114) 63 rfl 61 Try.underlying63 (inV In.zero) (zero_in _) (u32K Try.underlying39) mb q (insF ins) rfl HMr.out x rfl hx32 _ HFY1.out false HFY2.out ?_)
              | fail)
            first
              | go_roundw
              | refine ⟨?rel, ?measure⟩
            case rel =>
              refine ⟨k + 1, A2, c2, M, by omega, by go_num, HT1, HKW, hid ?_⟩
              rw [take_snoc' HX.out, List.filter_append, ← hM.out]
              simp [HFF.out]
            case measure => simp [intOf]; omega
          | true =>
            go_wp2_with (first
              | (at_lookup; refine wpList_lookOk _ rfl (.tmp 113) (.tmp 114) 63 rfl 61 Try.underlying63 (inV In.zero) (zero_in _) (u32K Try.underlying39) mb q (insF ins) rfl HMr.out x rfl hx32 _ HFY1.out true HFY2.out ?_)
              | (at_builtin; refine wpList_app1s rfl (.tmp 120) (.tmp 122) 23 rfl V.heap.size 39 k0 _ 1 4 Try.underlying23 HKF.out HK0.out HK1.out HK2.out rfl u32R rfl (.slice A2 M.length c2) M rfl HT1.out.own2 W1.heap.size rfl x rfl ⟨rfl, hx32⟩ (by omega) (by omega) HT1.out.vle ?_; intro A5 c5 w5 hown5 hg5; have HO5 := hid hown5; have HG5 := hid hg5; clear hown5 hg5; have xb := (HT1.out.bx.ext ((Ext.refl W1).alloc _)).grown HG5.out (fun e => by have := (HT1.out.own2.block _ e.symm).1; have := HT1.out.lt; omega); have x3 := xb.c3; have xf := xb.fz 3; rw [show w.heap.size + 2 = w.heap.size + 1 + 1 from rfl] at x3 xf; clear xb)
              | fail)
            first
              | go_roundw
              | refine ⟨?rel, ?measure⟩
            case rel =>
              refine ⟨k + 1, A5, c5, M ++ [x], by omega, by go_num, by simpa using hid (HT1.out.addS HO5.out HG5.out), hid (HKW.out.addS HT1.out HG5.out), hid ?_⟩
              rw [take_snoc' HX.out, List.filter_append, ← hM.out]
              simp [HFF.out]
            case measure => simp [intOf]; omega
        · obtain rfl : k = n := by omega
          have hMe : M = succL ins tabs at_ i := by
            rw [hM.out, List.take_of_length_le (by have := HN.out; omega), ← HZ.out, ← HR.out, ← HEN.out]
            rfl
          obtain ⟨x0, x1, x2, x3, x4, xf⟩ := hT.out.bx
          obtain ⟨r0, r1, r2, r3, r4, rf⟩ := hT.out.res
          rw [show w.heap.size + 2 = w.heap.size + 1 + 1 from rfl] at x0 x1 x2 x3 x4 xf
          have HME := hid hMe
          clear hMe
          go_wp2
          obtain ⟨WF, hWF⟩ : ∃ WF, ((((wr.setCell ⟨w.heap.size + 1, 0, none⟩ (.int .u32 a0)).setCell ⟨w.heap.size + 1, 1, none⟩ (.int .u32 (nextI i))).setCell ⟨w.heap.size + 1, 2, none⟩ (.slice (some ⟨bI, offI, none⟩) (m + 1) c1)).setCell ⟨w.heap.size + 1, 3, none⟩ (.slice A2 M.length c2)).setCell ⟨w.heap.size + 1, 4, none⟩ (.slice A3 cl.length c3) = WF := ⟨_, rfl⟩
          obtain ⟨d1, d2, d3, d4⟩ := hT.out.done _ _ _ _ _ hWF
          refine bodyPost_ret (v := .agg #[.int .u32 a0, .int .u32 (nextI i), .slice (some ⟨bI, offI, none⟩) (m + 1) c1, .slice A2 M.length c2, .slice A3 cl.length c3]) (by simp [results, Try.results29, go_sem, World.cell?_setCell_same, World.cell?_setCell_other, r0, r1, r2, r3, r4]) rfl ?_
          rw [hWF, bk_eq hP.out.1]
          rw [HME.out] at d3 ⊢
          refine ⟨d1, _, _, _, rfl, d2, d3, ?_, ha0, nextI_lt i⟩
          rw [← hP.out.2]
          exact d4
end Go.Proofs.Ytolbnhkdpbdhhaa
