/- cfg.Blocks. -/
import Derived.Test.YtolbnhkdpbdhhaaBkB
import Derived.Test.YtolbnhkdpbdhhaaCfgE
namespace Go.Proofs.Ytolbnhkdpbdhhaa
open Go.RowKit Go.Deco
set_option linter.unusedSimpArgs false
set_option linter.unusedVariables false

theorem info_bas : (Try.prog.info? 41).map (fun i => (i.zero, i.size, i.bytes)) = some (some (.agg #[.int .u32 0, .int .u32 0, .slice none 0 0, .slice none 0 0, .slice none 0 0]), 5, 80) := by kernel_rfl
theorem blkFrom_last {ins : List In} {ld : List Nat} {a : Nat} (ha : a < 4294967296) (h : ∃ i, firstIn ins a = some i) : ∃ acc i, blkFrom ins ld a = acc ++ [i] ∧ i ∈ ins := by
  have hm : ∀ (f a : Nat), ∀ i ∈ blkIns ins ld f a, i ∈ ins := by
    intro f
    induction f with
    | zero => intro a i hi; simp [blkIns] at hi
    | succ f ih =>
      intro a i hi
      rw [blkIns] at hi
      cases hf : firstIn ins a with
      | none => rw [hf] at hi; simp at hi
      | some j =>
        rw [hf] at hi
        simp only [] at hi
        split at hi
        · rw [List.mem_singleton] at hi
          subst hi
          exact (firstIn_addr hf).2
        · rcases List.mem_cons.1 hi with rfl | hi
          · exact (firstIn_addr hf).2
          · exact ih _ _ hi
  have hne : blkFrom ins ld a ≠ [] := by
    obtain ⟨i, hi⟩ := h
    cases hs : stopB ins ld a i with
    | true => rw [blkFrom_stop ha hi hs]; simp
    | false => rw [blkFrom_next ha hi hs]; simp
  have e := List.dropLast_concat_getLast hne
  refine ⟨_, _, e.symm, hm (4294967296 - a) a _ ?_⟩
  show _ ∈ blkFrom ins ld a
  exact List.getLast_mem hne
theorem blockBs_end_lt {ins : List In} {ld : List Nat} {tabs : List (List Nat)} {at_ : List Nat} {a : Nat} : (blockBs ins ld tabs at_ a).end_ < 4294967296 := nextI_lt _
def BlocksPost (w : World) (r : List Bs × Nat) (e : Ending) (w' : World) : Prop :=
  Ext w w' ∧ ∃ A c, e = .returned (.tuple #[.slice A r.1.length c, .int .i64 r.2]) ∧ Sl bsR w' All (.slice A r.1.length c) r.1

set_option maxRecDepth 100000 in
set_option maxHeartbeats 4000000 in
theorem cblocks_any (w : World) (A E U B T Q : Option Addr) (n c ne ce nu cu nb cb nt ct nq cq : Nat) (ins : List In) (entries : List Nat) (tabs : List (List Nat)) (at_ : List Nat) (hi : Sl insR w All (.slice A n c) ins) (he : Sl u32R w All (.slice E ne ce) entries)
    (ht : Sl u32sR w All (.slice T nt ct) tabs) (hq : Sl u32R w All (.slice Q nq cq) at_) (hn : n ≤ 600) (hne : ne ≤ 600) (hnq : nq ≤ 9223372036854775807) (htl : ∀ t ∈ tabs, t.length ≤ 1000) :
    Calls Try.prog 11 #[.agg #[.slice A n c, .slice E ne ce, .slice U nu cu, .slice B nb cb], .slice T nt ct, .slice Q nq cq] w (BlocksPost w (blocksR ins entries tabs at_)) := by
  obtain ⟨j0, hjf, hy0, hy1, hy2⟩ := info_parts info_bas
  have HJF := hid hjf
  have HY0 := hid hy0
  have HY1 := hid hy1
  have HY2 := hid hy2
  clear hjf hy0 hy1 hy2
  obtain ⟨W0, hW0⟩ : ∃ W0, w.alloc (.cells #[.slice A n c, .slice E ne ce, .slice U nu cu, .slice B nb cb] 25) = W0 := ⟨_, rfl⟩
  have hE : Ext w W0 := by rw [← hW0]; exact (Ext.refl w).alloc _
  have q0 : W0.cell? ⟨w.heap.size, 0, none⟩ = some (.slice A n c) := by rw [← hW0]; simp [go_sem]
  have q1 : W0.cell? ⟨w.heap.size, 1, none⟩ = some (.slice E ne ce) := by rw [← hW0]; simp [go_sem]
  have q2 : W0.cell? ⟨w.heap.size, 2, none⟩ = some (.slice U nu cu) := by rw [← hW0]; simp [go_sem]
  have q3 : W0.cell? ⟨w.heap.size, 3, none⟩ = some (.slice B nb cb) := by rw [← hW0]; simp [go_sem]
  have hok := ins_ok hi
  have hlen := hi.len
  have HC := hid (fun W (h : Ext w W) => collect_any W A E U B T Q n c ne ce nu cu nb cb nt ct nq cq ins (hi.ext h) (by omega))
  have HL := hid (fun W (h : Ext w W) mb q (hm : MapG (u32K Try.underlying39) W mb q (insF ins)) (hq' : q ≤ ins.length) => lead_any W mb q E T Q ne ce nt ct nq cq entries ins tabs at_ hm (he.ext h) (ht.ext h) (hq.ext h) hnq hok (by omega) htl (by omega))
  have HE := hid hE
  obtain ⟨R, hR⟩ : ∃ R, leadL ins entries tabs at_ = R := ⟨_, rfl⟩
  rw [hR] at HL
  have HRR : Hid (blocksR ins entries tabs at_ = (if 256 < R.length then ([], 6) else if (R.map (blockBs ins R tabs at_)).any (badB tabs at_) then ([], 19) else (R.map (blockBs ins R tabs at_), 0))) := hid (by rw [← hR]; rfl)
  have HRP : Hid (R.Pairwise (· < ·)) := hid (by rw [← hR]; exact asc_pw _)
  have HRF : Hid (∀ x ∈ R, ∃ i, firstIn ins x = some i) := hid (by rw [← hR]; exact fun x hx => leadL_has hx)
  have HBK := hid (fun W (h : Ext w W) mb q (hm : MapG (u32K Try.underlying39) W mb q (insF ins)) (L : Option Addr) (nl cl' : Nat) (hl : Sl u32R W All (.slice L nl cl') R) (hnl : nl ≤ 1000000) (a0 : Nat) (ha0 : a0 < 4294967296) (hi0 : ∃ i, firstIn ins a0 = some i) =>
    block_any W mb q T Q L nt ct nq cq nl cl' a0 ins R tabs at_ hm (ht.ext h) (hq.ext h) hl HRP.out hnl hnq hok htl ha0 hi0)
  have HTA := hid (fun wo W (h : Ext w wo) (h' : Ext wo W) mv a => table_any All wo W h' mv T Q nt ct nq cq tabs at_ (ht.ext h) (hq.ext h) hnq a)
  obtain ⟨BB, hBB⟩ : ∃ BB, blockBs ins R tabs at_ = BB := ⟨_, rfl⟩
  have HBB := hid hBB
  rw [hBB] at HRR HBK
  obtain ⟨RES, hRES⟩ : ∃ RES, blocksR ins entries tabs at_ = RES := ⟨_, rfl⟩
  rw [hRES] at HRR ⊢
  clear hE hi he ht hq hlen hR htl hBB hRES
  have HOK := hid hok
  clear hok
  go_enter Try.func11, Try.ntmps11
  go_wp2_with fail
  refine (HC.out W0 HE.out).mono ?_
  rintro e w1 ⟨hx1, mb, mq, rfl, hmb, hm, hmq⟩
  obtain ⟨W1, hW1⟩ : ∃ W1, w1.alloc (.cells #[.map (some mb), .slice T nt ct, .slice Q nq cq] 65) = W1 := ⟨_, rfl⟩
  have hE1 : Ext w1 W1 := by rw [← hW1]; exact (Ext.refl w1).alloc _
  have m0 : W1.cell? ⟨w1.heap.size, 0, none⟩ = some (.map (some mb)) := by rw [← hW1]; simp [go_sem]
  have m1 : W1.cell? ⟨w1.heap.size, 1, none⟩ = some (.slice T nt ct) := by rw [← hW1]; simp [go_sem]
  have m2 : W1.cell? ⟨w1.heap.size, 2, none⟩ = some (.slice Q nq cq) := by rw [← hW1]; simp [go_sem]
  have HX1 := hid (HE.out.trans (hx1.trans hE1))
  have HM1 := hid (hm.ext hE1)
  have HMQ := hid hmq
  have q1 := (hx1.trans hE1).cell q1
  clear hE1 hm hmq hx1 q0 q2 q3 hW0
  go_wp2_with fail
  refine (HL.out W1 HX1.out mb mq HM1.out HMQ.out).mono ?_
  rintro e w2 ⟨hx2, AL, cL, rfl, hsL⟩
  have m0 := hx2.cell m0
  have m1 := hx2.cell m1
  have m2 := hx2.cell m2
  have HX2 := hid (HX1.out.trans hx2)
  have HM2 := hid (HM1.out.ext hx2)
  have HSL := hid hsL
  obtain ⟨N, hN⟩ : ∃ N, R.length = N := ⟨_, rfl⟩
  rw [hN] at HSL ⊢
  have HN := hid hN
  have HCL := hid HSL.out.cap
  clear hx2 hsL q1 hW1 hN
  by_cases hbig : 256 < N
  · have hr : RES = ([], 6) := HRR.out.trans (if_pos (by rw [HN.out]; exact hbig))
    go_wp2
    go_ret2
    rw [hr]
    exact ⟨HX2.out, none, 0, rfl, Sl.nil⟩
  have hr : RES = (if (R.map BB).any (badB tabs at_) then ([], 19) else (R.map BB, 0)) := HRR.out.trans (if_neg (by rw [HN.out]; exact hbig))
  have HR := hid hr
  obtain ⟨V, hV⟩ : ∃ V, V = w2 := ⟨_, rfl⟩
  subst hV
  have M0 := hid m0
  have M1 := hid m1
  have M2 := hid m2
  clear hr m0 m1 m2
  go_wp2
  go_loopw [10, 30] (fun v i wr => ∃ (k : Nat) (A' : Option Addr) (c' : Nat) (M : List Bs), k ≤ N ∧ i = .int .i64 k ∧ v = .slice A' M.length c' ∧ Hid (OwnS bsR wr V.heap.size 41 (fun b => V.heap.size ≤ b) (.slice A' M.length c') M) ∧ Hid (Ext V wr) ∧ Hid (M = (R.take k).map BB) ∧ Hid (∀ b ∈ M, badB tabs at_ b = false)) (fun _ i _ => N - (intOf i).toNat)
  case atStart => exact ⟨0, none, 0, [], by omega, rfl, rfl, hid OwnS.nil, hid (Ext.refl _), hid (by simp), hid (by simp)⟩
  case round =>
    obtain ⟨k, A', c', M, hk, rfl, rfl, HO, HX, HM, HG⟩ := hrel
    by_cases h1 : k < N
    · obtain ⟨x, hx⟩ : ∃ x, R[k]? = some x := ⟨_, List.getElem?_eq_getElem (by have := HN.out; omega)⟩
      obtain ⟨b, off, rfl, cx, hx32⟩ := Sl.num_at (HSL.out.ext HX.out) hx
      have hif := HRF.out x (List.mem_of_getElem? hx)
      have hML : M.length ≤ k := by rw [HM.out]; simp; omega
      have m0 := HX.out.cell M0.out
      have m1 := HX.out.cell M1.out
      have m2 := HX.out.cell M2.out
      have HXW := hid (HX2.out.trans HX.out)
      have HB := hid (HBK.out wr HXW.out mb mq (HM2.out.ext HX.out) _ N cL (HSL.out.ext HX.out) (by omega) x hx32 hif)
      obtain ⟨acc, z, hz, hzi⟩ := blkFrom_last (ld := R) hx32 hif
      obtain ⟨su, hsu⟩ : ∃ su, succL ins tabs at_ z = su := ⟨_, rfl⟩
      obtain ⟨ca, hca⟩ : ∃ ca, callsL tabs at_ (acc ++ [z]) = ca := ⟨_, rfl⟩
      obtain ⟨nz, hnz⟩ : ∃ nz, nextI z = nz := ⟨_, rfl⟩
      have hbq : BB x = ⟨x, nz, acc ++ [z], su, ca⟩ := by rw [← HBB.out, ← hsu, ← hca, ← hnz]; exact bk_eq hz
      rw [hbq] at HB
      have HBQ := hid hbq
      have HKX := hid hx
      have HOKZ := hid (HOK.out z hzi)
      clear hbq hsu hca hnz hx hz hif hzi
      go_wp2_with fail
      refine (HB.out).mono ?_
      rintro e w3 ⟨hx3, v1, v2, v3, rfl, hs1, hs2, hs3, hl1, hl2⟩
      obtain ⟨A1, c1, rfl, hc1, hc1'⟩ := hs1.form
      obtain ⟨A2, c2, rfl, hc2, hc2'⟩ := hs2.form
      obtain ⟨A3, c3, rfl, hc3, hc3'⟩ := hs3.form
      obtain ⟨m, hm⟩ : ∃ m, acc.length = m := ⟨_, rfl⟩
      have hmz : (acc ++ [z])[m]? = some z := by rw [← hm]; simp
      have hm1 : (acc ++ [z]).length = m + 1 := by rw [← hm]; simp
      simp only [] at hs1 hs2 hs3 hc1 hc2 hc3 hl1 hl2 ⊢
      rw [hm1] at hs1 hc1 ⊢
      have HS1 := hid hs1
      have HS2 := hid hs2
      have HS3 := hid hs3
      obtain ⟨lu, hlu⟩ : ∃ lu, su.length = lu := ⟨_, rfl⟩
      obtain ⟨lc, hlc⟩ : ∃ lc, ca.length = lc := ⟨_, rfl⟩
      rw [hlu] at HS2 hc2 ⊢
      rw [hlc] at HS3 hc3 ⊢
      obtain ⟨W3, hW3⟩ : ∃ W3, w3.alloc (.cells #[.int .u32 x, .int .u32 nz, .slice A1 (m + 1) c1, .slice A2 lu c2, .slice A3 lc c3] 41) = W3 := ⟨_, rfl⟩
      have hE3 : Ext w3 W3 := by rw [← hW3]; exact (Ext.refl w3).alloc _
      obtain ⟨b1, o1, rfl, -, z0, z1, z2, z3, z4, z5, z6, z7, z8⟩ := Sl.in_at (HS1.out.ext hE3) hmz
      have p0 : W3.cell? ⟨w3.heap.size, 0, none⟩ = some (.int .u32 x) := by rw [← hW3]; simp [go_sem]
      have p1 : W3.cell? ⟨w3.heap.size, 1, none⟩ = some (.int .u32 nz) := by rw [← hW3]; simp [go_sem]
      have p2 : W3.cell? ⟨w3.heap.size, 2, none⟩ = some (.slice (some ⟨b1, o1, none⟩) (m + 1) c1) := by rw [← hW3]; simp [go_sem]
      have p3 : W3.cell? ⟨w3.heap.size, 3, none⟩ = some (.slice A2 lu c2) := by rw [← hW3]; simp [go_sem]
      have p4 : W3.cell? ⟨w3.heap.size, 4, none⟩ = some (.slice A3 lc c3) := by rw [← hW3]; simp [go_sem]
      have HE3 := hid (hx3.trans hE3)
      have HLU := hid hlu
      have HLC := hid hlc
      have HM1' := hid hm1
      have hmc : m ≤ 9223372036854775806 := by omega
      have hwm : wrap64 (m : Int) = m := IntWalk.wrap64_in _ (by omega)
      have M0' := hid (HE3.out.cell m0)
      have M1' := hid (HE3.out.cell m1)
      have M2' := hid (HE3.out.cell m2)
      obtain ⟨W4, hW4⟩ : ∃ W4, W3.alloc (.cells #[.int .u32 z.addr, .int .u32 z.imm, .int .i64 z.op, .int .i64 z.form, .int .i64 z.width, .int .i64 z.cc, .int .i64 z.a, .int .i64 z.b, .int .i64 z.size] 61) = W4 := ⟨_, rfl⟩
      have hE4 : Ext W3 W4 := by rw [← hW4]; exact (Ext.refl W3).alloc _
      have hB4 : Box9 W4 W3.heap.size z := by rw [← hW4]; exact Box9.new W3 z _
      have HE4 := hid hE4
      have HB4 := hid hB4
      have HEA := hid (hE3.trans hE4)
      have P34 := hid (And.intro (hE4.cell p0) (And.intro (hE4.cell p1) (And.intro (hE4.cell p2) (And.intro (hE4.cell p3) (hE4.cell p4)))))
      clear hm hm1 hmz hlu hlc hE3 hE4 hx3 hs1 hs2 hs3 m0 m1 m2 cx
      clear hmc hc1 hc1' hc2 hc2' hc3 hc3'
      go_upto_region 11 with fail
      clear hwm hW3 hW4 p0 p1 p2 p3 p4 z0 z1 z2 z3 z4 z5 z6 z7 z8
      have HXA := hid (HX.out.trans (HE3.out.trans HE4.out))
      have HO4 := hid (HO.out.ext (HE3.out.trans HE4.out))
      have HREL : Hid (bsR.rel W4 (fun b => V.heap.size ≤ b ∧ some b ≠ (Value.slice A' M.length c').ownBlock) [.int .u32 x, .int .u32 nz, .slice (some ⟨b1, o1, none⟩) (m + 1) c1, .slice A2 lu c2, .slice A3 lc c3] ⟨x, nz, acc ++ [z], su, ca⟩) := hid (by
        have key : ∀ b, wr.heap.size ≤ b → V.heap.size ≤ b ∧ some b ≠ (Value.slice A' M.length c').ownBlock := fun b hb => ⟨Nat.le_trans HX.out.size hb, fun e => by have := (HO.out.block _ e.symm).2; omega⟩
        refine ⟨_, _, _, rfl, ?_, ?_, ?_, hl1, hl2⟩
        · exact ((HS1.out.ext HEA.out).mono fun b hb _ => key b hb)
        · exact ((HS2.out.ext HEA.out).mono fun b hb _ => key b hb)
        · exact ((HS3.out.ext HEA.out).mono fun b hb _ => key b hb))
      obtain ⟨c0, c1', c2', c3', c4', c5', c6', c7', c8'⟩ := HB4.out
      have HLZ : Hid (lastOf (BB x) = z) := hid (by rw [HBQ.out]; unfold lastOf; simp)
      have hML' : M.length ≤ 256 := by omega
      have HTI := hid (HTA.out w W4 (Ext.refl w) (HXW.out.trans (HE3.out.trans HE4.out)) (some mb) z.addr)
      obtain ⟨tr, htr⟩ : ∃ tr, tabOf tabs at_ z.addr = tr := ⟨_, rfl⟩
      rw [htr] at HTI
      have HTR := hid htr
      clear htr
      by_cases h21 : z.op = 21
      · have n21 : (z.op == 21) = true := by simpa using h21
        have HZI : Hid (indL z = true) := hid (by simp [indL, h21])
        clear h21
        have M04 := HE4.out.cell M0'.out
        have M14 := HE4.out.cell M1'.out
        have M24 := HE4.out.cell M2'.out
        go_wp2_with fail
        refine (HTI.out).mono ?_
        rintro ee w7 ⟨hx7, AT, cT, rfl, hsT⟩
        have HX5 := hid (HXA.out.trans hx7)
        have HO5 := hid (HO4.out.ext hx7)
        have HREL5 := hid (bsR.ext hx7 HREL.out)
        have P35 := hid (And.intro (hx7.cell P34.out.1) (And.intro (hx7.cell P34.out.2.1) (And.intro (hx7.cell P34.out.2.2.1) (And.intro (hx7.cell P34.out.2.2.2.1) (hx7.cell P34.out.2.2.2.2)))))
        clear hx7 hsT M04 M14 M24 c0 c1' c2' c3' c4' c5' c6' c7' c8'
        obtain ⟨W5, hW5⟩ : ∃ W5, W5 = w7 := ⟨_, rfl⟩
        subst hW5
        cases tr with
        | none =>
          have hbad : badB tabs at_ (BB x) = true := by unfold badB; rw [HLZ.out, HZI.out, HTR.out]; rfl
          have HRE : Hid (RES = ([], 19)) := hid (by
            rw [HR.out, if_pos]
            exact List.any_eq_true.2 ⟨BB x, List.mem_map.2 ⟨x, List.mem_of_getElem? HKX.out, rfl⟩, hbad⟩)
          clear hbad
          go_wp2
          go_ret2
          rw [HRE.out]
          exact ⟨HX2.out.trans HX5.out, none, 0, rfl, Sl.nil⟩
        | some tt =>
          have HGN : Hid (badB tabs at_ (BB x) = false) := hid (by unfold badB; rw [HLZ.out, HTR.out]; simp)
          obtain ⟨p0, p1, p2, p3, p4⟩ := P35.out
          go_wp2_with (first
            | (at_builtin; refine wpList_app1s rfl (.tmp 63) (.tmp 65) 29 rfl V.heap.size 41 j0 _ 5 80 Try.underlying29 HJF.out HY0.out HY1.out HY2.out rfl bsR rfl (.slice A' M.length c') M rfl HO5.out W5.heap.size rfl ⟨x, nz, acc ++ [z], su, ca⟩ rfl HREL5.out (by omega) (by omega) (by exact HX5.out.size) ?_; intro A5 c5 w5 hown5 hg5; have HO6 := hid hown5; have HX6 := hid ((HX5.out.alloc _).grown hg5 (fun k hk => (HO5.out.block _ hk).1)); clear hown5 hg5)
            | fail)
          first
            | go_roundw
            | refine ⟨?rel, ?measure⟩
          case rel =>
            refine ⟨k + 1, A5, c5, M ++ [⟨x, nz, acc ++ [z], su, ca⟩], by omega, by go_num, by simp, hid (by simpa using HO6.out), HX6, hid ?_, hid ?_⟩
            · rw [take_snoc' HKX.out, List.map_append, ← HM.out, List.map_cons, List.map_nil, HBQ.out]
            · intro y hy
              rcases List.mem_append.1 hy with hy | hy
              · exact HG.out y hy
              · rw [List.mem_singleton] at hy
                rw [hy, ← HBQ.out]
                exact HGN.out
          case measure => simp [intOf]; omega
      · have n21 : (z.op == 21) = false := by simpa using h21
        have H21 := hid h21
        clear h21
        by_cases h22 : z.op = 22
        · have n22 : (z.op == 22) = true := by simpa using h22
          have HZI : Hid (indL z = true) := hid (by simp [indL, h22])
          clear h22
          have M04 := HE4.out.cell M0'.out
          have M14 := HE4.out.cell M1'.out
          have M24 := HE4.out.cell M2'.out
          go_wp2_with fail
          refine (HTI.out).mono ?_
          rintro ee w7 ⟨hx7, AT, cT, rfl, hsT⟩
          have HX5 := hid (HXA.out.trans hx7)
          have HO5 := hid (HO4.out.ext hx7)
          have HREL5 := hid (bsR.ext hx7 HREL.out)
          have P35 := hid (And.intro (hx7.cell P34.out.1) (And.intro (hx7.cell P34.out.2.1) (And.intro (hx7.cell P34.out.2.2.1) (And.intro (hx7.cell P34.out.2.2.2.1) (hx7.cell P34.out.2.2.2.2)))))
          clear hx7 hsT M04 M14 M24 c0 c1' c2' c3' c4' c5' c6' c7' c8'
          obtain ⟨W5, hW5⟩ : ∃ W5, W5 = w7 := ⟨_, rfl⟩
          subst hW5
          cases tr with
          | none =>
            have hbad : badB tabs at_ (BB x) = true := by unfold badB; rw [HLZ.out, HZI.out, HTR.out]; rfl
            have HRE : Hid (RES = ([], 19)) := hid (by
              rw [HR.out, if_pos]
              exact List.any_eq_true.2 ⟨BB x, List.mem_map.2 ⟨x, List.mem_of_getElem? HKX.out, rfl⟩, hbad⟩)
            clear hbad
            go_wp2
            go_ret2
            rw [HRE.out]
            exact ⟨HX2.out.trans HX5.out, none, 0, rfl, Sl.nil⟩
          | some tt =>
            have HGN : Hid (badB tabs at_ (BB x) = false) := hid (by unfold badB; rw [HLZ.out, HTR.out]; simp)
            obtain ⟨p0, p1, p2, p3, p4⟩ := P35.out
            go_wp2_with (first
              | (at_builtin; refine wpList_app1s rfl (.tmp 63) (.tmp 65) 29 rfl V.heap.size 41 j0 _ 5 80 Try.underlying29 HJF.out HY0.out HY1.out HY2.out rfl bsR rfl (.slice A' M.length c') M rfl HO5.out W5.heap.size rfl ⟨x, nz, acc ++ [z], su, ca⟩ rfl HREL5.out (by omega) (by omega) (by exact HX5.out.size) ?_; intro A5 c5 w5 hown5 hg5; have HO6 := hid hown5; have HX6 := hid ((HX5.out.alloc _).grown hg5 (fun k hk => (HO5.out.block _ hk).1)); clear hown5 hg5)
              | fail)
            first
              | go_roundw
              | refine ⟨?rel, ?measure⟩
            case rel =>
              refine ⟨k + 1, A5, c5, M ++ [⟨x, nz, acc ++ [z], su, ca⟩], by omega, by go_num, by simp, hid (by simpa using HO6.out), HX6, hid ?_, hid ?_⟩
              · rw [take_snoc' HKX.out, List.map_append, ← HM.out, List.map_cons, List.map_nil, HBQ.out]
              · intro y hy
                rcases List.mem_append.1 hy with hy | hy
                · exact HG.out y hy
                · rw [List.mem_singleton] at hy
                  rw [hy, ← HBQ.out]
                  exact HGN.out
            case measure => simp [intOf]; omega
        · have n22 : (z.op == 22) = false := by simpa using h22
          have HZI : Hid (indL z = false) := hid (by simp [indL, H21.out, h22])
          clear h22
          have HGN : Hid (badB tabs at_ (BB x) = false) := hid (by unfold badB; rw [HLZ.out, HZI.out]; rfl)
          obtain ⟨W5, hW5⟩ : ∃ W5, W5 = W4 := ⟨_, rfl⟩
          have HX5 := HXA
          have HO5 := HO4
          have HREL5 := HREL
          have P35 := P34
          rw [← hW5] at HX5 HO5 HREL5 P35 c0 c1' c2' c3' c4' c5' c6' c7' c8' ⊢
          clear hW5
          obtain ⟨p0, p1, p2, p3, p4⟩ := P35.out
          go_wp2_with (first
            | (at_builtin; refine wpList_app1s rfl (.tmp 63) (.tmp 65) 29 rfl V.heap.size 41 j0 _ 5 80 Try.underlying29 HJF.out HY0.out HY1.out HY2.out rfl bsR rfl (.slice A' M.length c') M rfl HO5.out W5.heap.size rfl ⟨x, nz, acc ++ [z], su, ca⟩ rfl HREL5.out (by omega) (by omega) (by exact HX5.out.size) ?_; intro A5 c5 w5 hown5 hg5; have HO6 := hid hown5; have HX6 := hid ((HX5.out.alloc _).grown hg5 (fun k hk => (HO5.out.block _ hk).1)); clear hown5 hg5)
            | fail)
          first
            | go_roundw
            | refine ⟨?rel, ?measure⟩
          case rel =>
            refine ⟨k + 1, A5, c5, M ++ [⟨x, nz, acc ++ [z], su, ca⟩], by omega, by go_num, by simp, hid (by simpa using HO6.out), HX6, hid ?_, hid ?_⟩
            · rw [take_snoc' HKX.out, List.map_append, ← HM.out, List.map_cons, List.map_nil, HBQ.out]
            · intro y hy
              rcases List.mem_append.1 hy with hy | hy
              · exact HG.out y hy
              · rw [List.mem_singleton] at hy
                rw [hy, ← HBQ.out]
                exact HGN.out
          case measure => simp [intOf]; omega
    · obtain rfl : k = N := by omega
      have hMe : M = R.map BB := by rw [HM.out, List.take_of_length_le (by have := HN.out; omega)]
      have hRE : RES = (M, 0) := by
        rw [HR.out, if_neg, ← hMe]
        rw [← hMe]
        intro hb
        obtain ⟨y, hy, hb⟩ := List.any_eq_true.1 hb
        rw [HG.out y hy] at hb
        cases hb
      have HRE := hid hRE
      clear hMe hRE
      go_wp2
      go_ret2
      rw [HRE.out]
      exact ⟨HX2.out.trans HX.out, A', c', rfl, HO.out.sl⟩
end Go.Proofs.Ytolbnhkdpbdhhaa
