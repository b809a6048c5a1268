/- The walks of the package 'memory': New. -/
import Derived.Test.YtjfdbfbdkjfgpaaMemD
import Derived.Test.YtjfdbfbdkjfgpaaSecC
import Derived.Test.YtjfdbfbdkjfgpaaSplit
namespace Go.Proofs.Ytjfdbfbdkjfgpaa
open Go.RowKit Go.Deco Go.Maps
set_option linter.unusedSimpArgs false

theorem info_reg : (Try.prog.info? 74).map (fun i => (i.zero, i.size, i.bytes)) = some (some (.agg #[.int .u64 0, .slice none 0 0, .bool false, .bool false]), 4, 40) := by kernel_rfl

theorem grownBy_set (w : World) (p : Addr) (v : Value) : w.grownBy (w.setCell p v) (some p.block) :=
  ⟨rfl, rfl, rfl, by simp, fun k _ hk => Below.heap_setCell _ _ _ k (fun e => hk (by rw [e]))⟩

theorem make8 {P : Program} (W : World) (t e : TypeId) (n base : Nat) (i : TypeInfo) (ht : P.underlying t = some (.slice e)) (hi : P.info? e = some i) (hz : i.zero = some (.int .u8 0)) (hsize : i.size = 1) (hby : i.bytes = 1) (hn : n ≤ 1000000) (hbase : base ≤ W.heap.size) :
    ∃ W', (Instr.makeSlice t (.int .i64 n) (.int .i64 n)).run P W = .ok (.slice (some ⟨W.heap.size, 0, none⟩) n n) W' ∧ Own u8R W' base e (.slice (some ⟨W.heap.size, 0, none⟩) n n) (List.replicate n 0) ∧ Ext W W' := by
  obtain ⟨W', hrun, h2, h3⟩ := run_make_full (P := P) W base t e i (.int .u8 0) 1 ht hi hz hsize .i64 .i64 n (by rw [hby]; omega) (by unfold maxLen; omega) hbase
  refine ⟨W', hrun, ⟨List.replicate n (.int .u8 0), ?_, chunks_num.2 ⟨by simp, fun x hx => ?_⟩⟩, ⟨h3.os, h3.tape, h3.output, h3.size, fun k hk => h3.block k hk (by simp)⟩⟩
  · have : (madeCells (Value.cells (.int .u8 0)) (n * 1)).toList = List.replicate n (.int .u8 0) := by
      rw [Nat.mul_one]; exact toList_madeCells_one _ _
    rw [this] at h2
    rw [List.length_replicate]
    exact h2
  · have := List.eq_of_mem_replicate hx
    omega

theorem secErr_zero {pre : List Sec} {s : Sec} (h : secErr pre s = 0) : s.data.length ≤ 65536 ∧ s.addr + s.data.length ≤ 4294967295 := by
  rw [secErr] at h
  split at h
  · omega
  split at h
  · omega
  split at h
  · omega
  split at h
  · omega
  · omega
theorem firstErr_zero : ∀ (r pre : List Sec) {k : Nat} {s : Sec}, r[k]? = some s → firstErr pre r = 0 → s.data.length ≤ 65536 ∧ s.addr + s.data.length ≤ 4294967295
  | [], _, _, _, h, _ => by simp at h
  | x :: r, pre, 0, s, h, h0 => by
    simp at h
    subst h
    rw [firstErr] at h0
    split at h0
    · next h => exact secErr_zero h
    · next h => exact absurd h0 h
  | x :: r, pre, k + 1, s, h, h0 => by
    rw [firstErr] at h0
    split at h0
    · exact firstErr_zero r _ (by simpa using h) h0
    · next h => exact absurd h0 h
theorem secCheck_zero {l : List Sec} {k : Nat} {s : Sec} (hk : l[k]? = some s) (h : secCheck l = 0) : s.data.length ≤ 65536 ∧ s.addr + s.data.length ≤ 4294967295 := by
  rw [secCheck] at h
  split at h
  · omega
  split at h
  · next h1 => exact absurd h h1
  · next h1 => exact firstErr_zero l [] hk (by omega)

def regOf (s : Sec) : Reg := ⟨s.addr, s.data, s.wr, s.ex⟩
def stackReg : Reg := ⟨978944, List.replicate 4096 0, true, false⟩
def regsOf (l : List Sec) : List Reg := l.map regOf ++ [stackReg]

/-- What New hands back. -/
def NewPost (w : World) (l : List Sec) (e : Ending) (w' : World) : Prop :=
  Ext w w' ∧ ((secCheck l ≠ 0 ∧ e = .returned (.tuple #[.pointer none, .int .i64 (secCheck l : Nat)])) ∨
    (secCheck l = 0 ∧ ∃ mb bm, e = .returned (.tuple #[.pointer (some ⟨mb, 0, none⟩), .int .i64 0]) ∧ w.heap.size ≤ mb ∧ w.heap.size ≤ bm ∧ Mem w' mb bm (regsOf l) (fun _ => none) 0))

/-- The memory in the making: block B is its map, block B + 1 the struct. -/
structure NewInv (w : World) (B : Nat) (wr : World) (k : Nat) (A' : Option Addr) (c' : Nat) (L : List Reg) : Prop where
  c0 : wr.cell? ⟨B + 1, 0, none⟩ = some (.slice A' k c')
  c1 : wr.cell? ⟨B + 1, 1, none⟩ = some (.map (some B))
  fr : ∀ i, wr.frozen? ⟨B + 1, i, none⟩ = false
  own : OwnS regR wr (B + 2) 74 (fun b => b ≠ B + 1) (.slice A' k c') L
  mp : wr.ownsMap Try.prog 23 (plainElem (H := Unit) Try.prog 5) B 0 (.map [])
  ext : Ext w wr
  le : w.heap.size ≤ B

set_option maxRecDepth 100000 in
set_option maxHeartbeats 1000000 in
theorem new_any (w : World) (A : Option Addr) (n c : Nat) (l : List Sec) (hl : Sl secR w All (.slice A n c) l) :
    Calls Try.prog 12 #[.slice A n c] w (NewPost w l) := by
  have hln := hl.len
  obtain ⟨hnc, hcm⟩ := hl.cap
  have HS := hid hl; clear hl
  have HL := hid hln; clear hln
  have hmm := @run_makeMap Try.prog
  obtain ⟨i0, hi, hz0, hz1, hz2⟩ := info_parts info_reg
  go_enter Try.func12, Try.ntmps12
  go_wp2_with fail
  refine (check_any w All A n c l HS.out).mono ?_
  rintro e w1 ⟨rfl, hx⟩
  have HX := hid hx; clear hx
  obtain ⟨er, her⟩ : ∃ er, secCheck l = er := ⟨_, rfl⟩
  rw [her]
  have HER := hid her; clear her
  by_cases h0 : er = 0
  · subst h0
    go_wp2
    have h16 : n ≤ 16 := by
      rcases Nat.lt_or_ge 16 l.length with h | h
      · have := secCheck_many h
        rw [HER.out] at this
        cases this
      · rw [HL.out]; exact h
    have hB : w.heap.size ≤ w1.heap.size := HX.out.size
    go_loopw [18] (fun i wr => ∃ k : Nat, k ≤ n ∧ i = .int .i64 k ∧ ∃ A' c', Hid (NewInv w w1.heap.size wr k A' c' ((l.take k).map regOf))) (fun i _ => n - (intOf i).toNat)
    case atStart =>
      refine ⟨0, by omega, rfl, none, 0, hid ⟨by simp, by simp, fun i => by simp, OwnS.nil, ?_, (HX.out.alloc _).alloc _, hB⟩⟩
      exact (World.ownsMap_made w1 _ _ _).alloc _
    case round =>
      obtain ⟨k, hk, rfl, A1, c1, hinv⟩ := hrel
      by_cases h1 : k < n
      · obtain ⟨s, hs⟩ : ∃ s, l[k]? = some s := ⟨_, List.getElem?_eq_getElem (by have := HL.out; omega)⟩
        obtain ⟨b, off, dA, dc, rfl, hd, hdl, hal, hnl, s0, s1, s2, s3, s4⟩ := HS.out.sec_at hs
        obtain ⟨hbig, hend⟩ := secCheck_zero hs HER.out
        have s0 := hinv.out.ext.cell s0
        have s1 := hinv.out.ext.cell s1
        have s2 := hinv.out.ext.cell s2
        have s3 := hinv.out.ext.cell s3
        have s4 := hinv.out.ext.cell s4
        have m0 := hinv.out.c0
        have hmlt := World.block_lt_of_cell? _ _ m0
        have m0' := m0
        have HD := hid hd; clear hd
        have HK := hid hs; clear hs
        go_wp2_with fail
        have hne : w1.heap.size + 1 ≠ wr.heap.size := by omega
        obtain ⟨W, hW⟩ : ∃ W, (wr.alloc (Obj.cells #[Value.string s.name, Value.int IntKind.u32 ↑s.addr, Value.slice dA s.data.length dc, Value.bool s.wr, Value.bool s.ex] 67)) = W := ⟨_, rfl⟩
        have hEW : Ext wr W := by rw [← hW]; exact (Ext.refl wr).alloc _
        have e0 : W.cell? ⟨wr.heap.size, 0, none⟩ = some (.string s.name) := by rw [← hW]; simp
        have e1 : W.cell? ⟨wr.heap.size, 1, none⟩ = some (.int .u32 s.addr) := by rw [← hW]; simp
        have e2 : W.cell? ⟨wr.heap.size, 2, none⟩ = some (.slice dA s.data.length dc) := by rw [← hW]; simp
        have e3 : W.cell? ⟨wr.heap.size, 3, none⟩ = some (.bool s.wr) := by rw [← hW]; simp
        have e4 : W.cell? ⟨wr.heap.size, 4, none⟩ = some (.bool s.ex) := by rw [← hW]; simp
        have hWs : W.heap.size = wr.heap.size + 1 := by rw [← hW]; simp
        rw [hW]
        have HWS := hid hWs
        have hsW : wr.heap.size < W.heap.size := by omega
        have n0 := hEW.cell m0
        have HEW := hid hEW
        clear hW hEW s0 s1 s2 s3 s4 m0 hWs
        have hcl := hid (clone8_any W.drew All dA s.data.length dc s.data ((HD.out.ext (hinv.out.ext.trans HEW.out)).ext (Ext.refl W).drew) (by omega))
        have hwa : IntKind.u64.wrap (s.addr : Int) = s.addr := IntWalk.u64_in _ (by omega)
        refine wp_region_split 21 (by kernel_rfl) rfl rfl (by kernel_rfl) (fun w' => w'.cell? ⟨w1.heap.size + 1, 0, none⟩ = some (.slice A1 k c1) ∧ w'.cell? ⟨wr.heap.size, 0, none⟩ = some (.string s.name) ∧ w'.cell? ⟨wr.heap.size, 1, none⟩ = some (.int .u32 s.addr) ∧ w'.cell? ⟨wr.heap.size, 2, none⟩ = some (.slice dA s.data.length dc) ∧ w'.cell? ⟨wr.heap.size, 3, none⟩ = some (.bool s.wr) ∧ w'.cell? ⟨wr.heap.size, 4, none⟩ = some (.bool s.ex)) ⟨n0, e0, e1, e2, e3, e4⟩ (fun hS0 => ?_)
        simp only [List.take_succ_cons, List.take_zero]
        refine wpAnyH_take (i := 0) (v := ?v0) rfl (by kernel_rfl) (by kernel_rfl) (by kernel_rfl) (fun _ _ _ h => h) (Or.inl ⟨by rfl, ?y0⟩) (by assumption) ?r0
        case y0 => first | (intro w hSw; (try dsimp only at hSw); go_simp; done) | (intro w hSw; (try dsimp only at hSw); go_simp; with_reducible rfl)
        case' r0 => try simp only [Act.put, List.setIfInBounds_toArray, List.set_cons_zero, List.set_cons_succ]
        refine wpAnyH_take (i := 1) (v := ?v1) rfl (by kernel_rfl) (by kernel_rfl) (by kernel_rfl) (fun _ _ _ h => h) (Or.inl ⟨by rfl, ?y1⟩) (by assumption) ?r1
        case y1 => first | (intro w hSw; (try dsimp only at hSw); go_simp; done) | (intro w hSw; (try dsimp only at hSw); go_simp; with_reducible rfl)
        case' r1 => try simp only [Act.put, List.setIfInBounds_toArray, List.set_cons_zero, List.set_cons_succ]
        refine wpAnyH_take (i := 2) (v := ?v2) rfl (by kernel_rfl) (by kernel_rfl) (by kernel_rfl) (fun _ _ _ h => h) (Or.inl ⟨by rfl, ?y2⟩) (by assumption) ?r2
        case y2 => first | (intro w hSw; (try dsimp only at hSw); go_simp; done) | (intro w hSw; (try dsimp only at hSw); go_simp; with_reducible rfl)
        case' r2 => try simp only [Act.put, List.setIfInBounds_toArray, List.set_cons_zero, List.set_cons_succ]
        refine wpAnyH_take (i := 3) (v := ?v3) rfl (by kernel_rfl) (by kernel_rfl) (by kernel_rfl) (fun _ _ _ h => h) (Or.inl ⟨by rfl, ?y3⟩) (by assumption) ?r3
        case y3 => first | (intro w hSw; (try dsimp only at hSw); go_simp; done) | (intro w hSw; (try dsimp only at hSw); go_simp; with_reducible rfl)
        case' r3 => try simp only [Act.put, List.setIfInBounds_toArray, List.set_cons_zero, List.set_cons_succ]
        refine wpAnyH_take (i := 4) (v := ?v4) rfl (by kernel_rfl) (by kernel_rfl) (by kernel_rfl) (fun _ _ _ h => h) (Or.inl ⟨by rfl, ?y4⟩) (by assumption) ?r4
        case y4 => first | (intro w hSw; (try dsimp only at hSw); go_simp; done) | (intro w hSw; (try dsimp only at hSw); go_simp; with_reducible rfl)
        case' r4 => try simp only [Act.put, List.setIfInBounds_toArray, List.set_cons_zero, List.set_cons_succ]
        refine wpAnyH_take (i := 5) (v := ?v5) rfl (by kernel_rfl) (by kernel_rfl) (by kernel_rfl) (fun _ _ _ h => h) (Or.inl ⟨by rfl, ?y5⟩) (by assumption) ?r5
        case y5 => first | (intro w hSw; (try dsimp only at hSw); go_simp; done) | (intro w hSw; (try dsimp only at hSw); go_simp; with_reducible rfl)
        case' r5 => try simp only [Act.put, List.setIfInBounds_toArray, List.set_cons_zero, List.set_cons_succ]
        refine wpAnyH_take (i := 6) (v := ?v6) rfl (by kernel_rfl) (by kernel_rfl) (by kernel_rfl) (fun _ _ _ h => h) (Or.inl ⟨by rfl, ?y6⟩) (by assumption) ?r6
        case y6 => first | (intro w hSw; (try dsimp only at hSw); go_simp; done) | (intro w hSw; (try dsimp only at hSw); go_simp; with_reducible rfl)
        case' r6 => try simp only [Act.put, List.setIfInBounds_toArray, List.set_cons_zero, List.set_cons_succ]
        refine wpAnyH_take (i := 7) (v := ?v7) rfl (by kernel_rfl) (by kernel_rfl) (by kernel_rfl) (fun _ _ _ h => h) (Or.inl ⟨by rfl, ?y7⟩) (by assumption) ?r7
        case y7 => first | (intro w hSw; (try dsimp only at hSw); go_simp; done) | (intro w hSw; (try dsimp only at hSw); go_simp; with_reducible rfl)
        case' r7 => try simp only [Act.put, List.setIfInBounds_toArray, List.set_cons_zero, List.set_cons_succ]
        refine wpAnyH_take (i := 8) (v := ?v8) rfl (by kernel_rfl) (by kernel_rfl) (by kernel_rfl) (fun _ _ _ h => h) (Or.inl ⟨by rfl, ?y8⟩) (by assumption) ?r8
        case y8 => first | (intro w hSw; (try dsimp only at hSw); go_simp; done) | (intro w hSw; (try dsimp only at hSw); go_simp; with_reducible rfl)
        case' r8 => try simp only [Act.put, List.setIfInBounds_toArray, List.set_cons_zero, List.set_cons_succ]
        refine wpAnyH_take (i := 9) (v := ?v9) rfl (by kernel_rfl) (by kernel_rfl) (by kernel_rfl) (fun _ _ _ h => h) (Or.inl ⟨by rfl, ?y9⟩) (by assumption) ?r9
        case y9 => first | (intro w hSw; (try dsimp only at hSw); go_simp; done) | (intro w hSw; (try dsimp only at hSw); go_simp; with_reducible rfl)
        case' r9 => try simp only [Act.put, List.setIfInBounds_toArray, List.set_cons_zero, List.set_cons_succ]
        refine wpAnyH_take (i := 11) (v := ?v11) rfl (by kernel_rfl) (by kernel_rfl) (by kernel_rfl) (fun _ _ _ h => h) (Or.inl ⟨by rfl, ?y11⟩) (by assumption) ?r11
        case y11 => first | (intro w hSw; (try dsimp only at hSw); go_simp; done) | (intro w hSw; (try dsimp only at hSw); go_simp; with_reducible rfl)
        case' r11 => try simp only [Act.put, List.setIfInBounds_toArray, List.set_cons_zero, List.set_cons_succ]
        refine wpAnyH_take (i := 12) (v := ?v12) rfl (by kernel_rfl) (by kernel_rfl) (by kernel_rfl) (fun _ _ _ h => h) (Or.inl ⟨by rfl, ?y12⟩) (by assumption) ?r12
        case y12 => first | (intro w hSw; (try dsimp only at hSw); go_simp; done) | (intro w hSw; (try dsimp only at hSw); go_simp; with_reducible rfl)
        case' r12 => try simp only [Act.put, List.setIfInBounds_toArray, List.set_cons_zero, List.set_cons_succ]
        refine wpAnyH_take (i := 13) (v := ?v13) rfl (by kernel_rfl) (by kernel_rfl) (by kernel_rfl) (fun _ _ _ h => h) (Or.inl ⟨by rfl, ?y13⟩) (by assumption) ?r13
        case y13 => first | (intro w hSw; (try dsimp only at hSw); go_simp; done) | (intro w hSw; (try dsimp only at hSw); go_simp; with_reducible rfl)
        case' r13 => try simp only [Act.put, List.setIfInBounds_toArray, List.set_cons_zero, List.set_cons_succ]
        refine wpAnyH_take (i := 14) (v := ?v14) rfl (by kernel_rfl) (by kernel_rfl) (by kernel_rfl) (fun _ _ _ h => h) (Or.inl ⟨by rfl, ?y14⟩) (by assumption) ?r14
        case y14 => first | (intro w hSw; (try dsimp only at hSw); go_simp; done) | (intro w hSw; (try dsimp only at hSw); go_simp; with_reducible rfl)
        case' r14 => try simp only [Act.put, List.setIfInBounds_toArray, List.set_cons_zero, List.set_cons_succ]
        refine wpAnyH_take (i := 15) (v := ?v15) rfl (by kernel_rfl) (by kernel_rfl) (by kernel_rfl) (fun _ _ _ h => h) (Or.inl ⟨by rfl, ?y15⟩) (by assumption) ?r15
        case y15 => first | (intro w hSw; (try dsimp only at hSw); go_simp; done) | (intro w hSw; (try dsimp only at hSw); go_simp; with_reducible rfl)
        case' r15 => try simp only [Act.put, List.setIfInBounds_toArray, List.set_cons_zero, List.set_cons_succ]
        refine wpAnyH_ready (rs := [10]) (by kernel_rfl) (by simp) ?_
        refine AllReadyH.cons rfl (fun K hK => ?_) AllReadyH.nil
        go_simp
        refine hcl.out.mono ?_
        rintro e w2 ⟨A2, c2, rfl, hown2, hx2⟩
        have on := hx2.cell n0
        have o0 := hx2.cell e0
        have o1 := hx2.cell e1
        have o2 := hx2.cell e2
        have o3 := hx2.cell e3
        have o4 := hx2.cell e4
        have HX2 := hid hx2
        have HY := hid hown2
        clear hx2 hown2
        refine hK.out _ _ ⟨on, o0, o1, o2, o3, o4⟩ (fun hS1 => ?_)
        clear hK K
        try simp only [Act.put, List.setIfInBounds_toArray, List.set_cons_zero, List.set_cons_succ]
        refine wpAnyH_take (i := 16) (v := ?v16) rfl (by kernel_rfl) (by kernel_rfl) (by kernel_rfl) (fun _ _ _ h => h) (Or.inl ⟨by rfl, ?y16⟩) (by assumption) ?r16
        case y16 => first | (intro w hSw; (try dsimp only at hSw); go_simp; done) | (intro w hSw; (try dsimp only at hSw); go_simp; with_reducible rfl)
        case' r16 => try simp only [Act.put, List.setIfInBounds_toArray, List.set_cons_zero, List.set_cons_succ]
        refine wpAnyH_ready (rs := [17]) (by kernel_rfl) (by simp) ?_
        refine AllReadyH.cons rfl (fun K hK => ?_) AllReadyH.nil
        go_simp
        have hlt2 : w1.heap.size + 1 < w2.heap.size := World.block_lt_of_cell? _ _ on
        have hlt3 : wr.heap.size < w2.heap.size := World.block_lt_of_cell? _ _ o0
        refine hK.out _ _ (by simp [World.cell?_alloc_past, *]) (fun hS2 => ?_)
        clear hK K
        try simp only [Act.put, List.setIfInBounds_toArray, List.set_cons_zero, List.set_cons_succ]
        refine wpAnyH_ready (rs := [18]) (by kernel_rfl) (by simp) ?_
        refine AllReadyH.cons rfl (fun K hK => ?_) AllReadyH.nil
        have hE12 := HEW.out.trans HX2.out.drew_left
        have hob := hinv.out.own.block
        have hown := hinv.out.own.ext hE12
        have hy : regR.rel w2 (fun b => b ≠ w1.heap.size + 1 ∧ some b ≠ (Value.slice A1 k c1).ownBlock) [.int .u64 s.addr, .slice A2 s.data.length c2, .bool s.wr, .bool s.ex] (regOf s) := by
          refine ⟨_, rfl, HY.out.num_sl fun b hb => ⟨?_, fun h => ?_⟩, ?_, hbig⟩
          · have := World.block_lt_of_cell? _ _ n0
            simp at hb
            omega
          · have := (hob b h.symm).2
            simp at hb
            omega
          · show s.addr + s.data.length ≤ 4294967295
            exact hend
        have hkl : ((l.take k).map regOf).length = k := by rw [List.length_map, List.length_take]; have := HL.out; omega
        refine step_app1 (by rfl) (.tmp 26) (.tmp 39) 60 (by rfl) (w1.heap.size + 2) 74 i0 _ 4 40 Try.underlying60 hi hz0 hz1 hz2 rfl regR rfl (.slice A1 k c1) _ (by rfl) hown (regOf s) (by rfl) hy (by omega) (by omega) (by omega) ?_
        intro A3 c3 w3 hown3 hg3
        rw [hkl] at hown3
        have hc3 : ∀ p v, w2.cell? p = some v → (Value.slice A1 k c1).ownBlock ≠ some p.block → w3.cell? p = some v := fun p v hc hne =>
          (World.cell?_of_block (hg3.block _ (by have := World.block_lt_of_cell? _ _ hc; rw [World.size_alloc]; omega) (fun h => hne h.symm))).trans ((((Ext.refl w2).alloc _).cell hc).trans rfl)
        have q0 := hc3 _ _ on (fun h => by have := (hob _ h).1; simp at this)
        have q1 := hc3 _ _ o0 (fun h => by have := (hob _ h).2; simp at this)
        have q2 := hc3 _ _ o1 (fun h => by have := (hob _ h).2; simp at this)
        have q3 := hc3 _ _ o2 (fun h => by have := (hob _ h).2; simp at this)
        have q4 := hc3 _ _ o3 (fun h => by have := (hob _ h).2; simp at this)
        have q5 := hc3 _ _ o4 (fun h => by have := (hob _ h).2; simp at this)
        rw [hkl]
        refine hK.out _ _ ⟨q0, q1, q2, q3, q4, q5⟩ (fun hS3 => ?_)
        clear hK K
        try simp only [Act.put, List.setIfInBounds_toArray, List.set_cons_zero, List.set_cons_succ]
        refine wpAnyH_take (i := 19) (v := ?v19) rfl (by kernel_rfl) (by kernel_rfl) (by kernel_rfl) (fun _ _ _ h => h) (Or.inl ⟨by rfl, ?y19⟩) (by assumption) ?r19
        case y19 => first | (intro w hSw; (try dsimp only at hSw); go_simp; done) | (intro w hSw; (try dsimp only at hSw); go_simp; with_reducible rfl)
        case' r19 => try simp only [Act.put, List.setIfInBounds_toArray, List.set_cons_zero, List.set_cons_succ]
        refine wpAnyH_take (i := 20) (v := ?v20) rfl (by kernel_rfl) (by kernel_rfl) (by kernel_rfl) (fun _ _ _ h => h) (Or.inl ⟨by rfl, ?y20⟩) (by assumption) ?r20
        case y20 => first | (intro w hSw; (try dsimp only at hSw); go_simp; done) | (intro w hSw; (try dsimp only at hSw); go_simp; with_reducible rfl)
        case' r20 => try simp only [Act.put, List.setIfInBounds_toArray, List.set_cons_zero, List.set_cons_succ]
        refine wpAnyH_done (by kernel_rfl) ?_ _
        change wpList _ _ _ _ _ _
        have hlt := World.block_lt_of_cell? _ _ m0'
        simp only at hlt
        have f3 : ∀ i, w3.frozen? ⟨w1.heap.size + 1, i, none⟩ = false := by
          intro i
          have h1 : w2.frozen? ⟨w1.heap.size + 1, i, none⟩ = false := (hE12.frozen hlt).trans (hinv.out.fr i)
          have hb : (w2.alloc (Obj.cells #[Value.int IntKind.u64 ↑s.addr, Value.slice A2 s.data.length c2, Value.bool s.wr, Value.bool s.ex] 74)).frozen? ⟨w1.heap.size + 1, i, none⟩ = false := (((Ext.refl w2).alloc _).frozen hlt2).trans h1
          exact (World.frozen?_of_block (hg3.block _ (by rw [World.size_alloc]; exact Nat.lt_succ_of_lt hlt2) (fun h => by have := (hob _ h.symm).1; simp at this))).trans hb
        have f30 := f3 0
        go_wp2
        go_roundw
        case rel =>
          have c1 := hc3 _ _ (hE12.cell hinv.out.c1) (fun h => by have := (hob _ h).1; simp at this)
          have hx3 : Ext w w3 := ((hinv.out.ext.trans hE12).alloc _).grown hg3 (fun j hj => by have := (hob j hj).1; omega)
          have hmp := ((hinv.out.mp.kept (hE12.grownBy none) (by simp)).alloc (Obj.cells #[Value.int IntKind.u64 ↑s.addr, Value.slice A2 s.data.length c2, Value.bool s.wr, Value.bool s.ex] 74)).kept hg3 (fun h => by have := (hob _ h.symm).1; omega)
          refine ⟨k + 1, by omega, by go_num, A3, c3, hid ⟨by simp [World.cell?_setCell_same, q0], ?_, ?_, ?_, ?_, ?_, hB⟩⟩
          · exact (World.cell?_setCell_other _ _ _ _ (by simp)).trans c1
          · intro i; simpa using f3 i
          · have e1 : (l.take (k + 1)).map regOf = (l.take k).map regOf ++ [regOf s] := by rw [take_snoc' HK.out, List.map_append]; rfl
            rw [e1]
            refine hown3.set_far (fun h => ?_) (fun b hb => hb)
            have := (hown3.block _ h).1
            simp at this
          · exact hmp.kept (grownBy_set _ _ _) (by simp)
          · exact hx3.setCell (by simp; omega) _
        case measure => simp [intOf]; omega
      · obtain rfl : k = n := by omega
        have m0 := hinv.out.c0
        have hmlt := World.block_lt_of_cell? _ _ m0
        have m0' := m0
        simp only at hmlt
        have hin := hid hi; clear hi
        obtain ⟨j0, hj, hj0, hj1, hj2⟩ := info_parts info_u8
        have hjn := hid hj; clear hj
        go_wp2_with fail
        refine wp_region_split 12 (by kernel_rfl) rfl rfl (by kernel_rfl) (fun w' => w'.cell? ⟨w1.heap.size + 1, 0, none⟩ = some (.slice A1 k c1)) m0 (fun hS0 => ?_)
        simp only [List.take_succ_cons, List.take_zero]
        refine wpAnyH_take (i := 0) (v := ?bv0) rfl (by kernel_rfl) (by kernel_rfl) (by kernel_rfl) (fun _ _ _ h => h) (Or.inl ⟨by rfl, ?by0⟩) (by assumption) ?br0
        case by0 => first | (intro w hSw; (try dsimp only at hSw); go_simp; done) | (intro w hSw; (try dsimp only at hSw); go_simp; with_reducible rfl)
        case' br0 => try simp only [Act.put, List.setIfInBounds_toArray, List.set_cons_zero, List.set_cons_succ]
        refine wpAnyH_take (i := 1) (v := ?bv1) rfl (by kernel_rfl) (by kernel_rfl) (by kernel_rfl) (fun _ _ _ h => h) (Or.inl ⟨by rfl, ?by1⟩) (by assumption) ?br1
        case by1 => first | (intro w hSw; (try dsimp only at hSw); go_simp; done) | (intro w hSw; (try dsimp only at hSw); go_simp; with_reducible rfl)
        case' br1 => try simp only [Act.put, List.setIfInBounds_toArray, List.set_cons_zero, List.set_cons_succ]
        refine wpAnyH_take (i := 2) (v := ?bv2) rfl (by kernel_rfl) (by kernel_rfl) (by kernel_rfl) (fun _ _ _ h => h) (Or.inl ⟨by rfl, ?by2⟩) (by assumption) ?br2
        case by2 => first | (intro w hSw; (try dsimp only at hSw); go_simp; done) | (intro w hSw; (try dsimp only at hSw); go_simp; with_reducible rfl)
        case' br2 => try simp only [Act.put, List.setIfInBounds_toArray, List.set_cons_zero, List.set_cons_succ]
        refine wpAnyH_take (i := 3) (v := ?bv3) rfl (by kernel_rfl) (by kernel_rfl) (by kernel_rfl) (fun _ _ _ h => h) (Or.inl ⟨by rfl, ?by3⟩) (by assumption) ?br3
        case by3 => first | (intro w hSw; (try dsimp only at hSw); go_simp; done) | (intro w hSw; (try dsimp only at hSw); go_simp; with_reducible rfl)
        case' br3 => try simp only [Act.put, List.setIfInBounds_toArray, List.set_cons_zero, List.set_cons_succ]
        refine wpAnyH_take (i := 4) (v := ?bv4) rfl (by kernel_rfl) (by kernel_rfl) (by kernel_rfl) (fun _ _ _ h => h) (Or.inl ⟨by rfl, ?by4⟩) (by assumption) ?br4
        case by4 => first | (intro w hSw; (try dsimp only at hSw); go_simp; done) | (intro w hSw; (try dsimp only at hSw); go_simp; with_reducible rfl)
        case' br4 => try simp only [Act.put, List.setIfInBounds_toArray, List.set_cons_zero, List.set_cons_succ]
        refine wpAnyH_take (i := 6) (v := ?bv6) rfl (by kernel_rfl) (by kernel_rfl) (by kernel_rfl) (fun _ _ _ h => h) (Or.inl ⟨by rfl, ?by6⟩) (by assumption) ?br6
        case by6 => first | (intro w hSw; (try dsimp only at hSw); go_simp; done) | (intro w hSw; (try dsimp only at hSw); go_simp; with_reducible rfl)
        case' br6 => try simp only [Act.put, List.setIfInBounds_toArray, List.set_cons_zero, List.set_cons_succ]
        refine wpAnyH_ready (rs := [5]) (by kernel_rfl) (by simp) ?_
        refine AllReadyH.cons rfl (fun K hK => ?_) AllReadyH.nil
        go_simp
        obtain ⟨w2, hrun, hown2, hx2⟩ := make8 (P := Try.prog) wr.drew 49 5 4096 wr.heap.size j0 Try.underlying49 hjn.out hj0 hj1 hj2 (by omega) (by simp)
        have hrun' : (Instr.makeSlice 49 (.int .i64 4096) (.int .i64 4096)).run Try.prog wr.drew = _ := hrun
        rw [hrun']
        clear hrun hrun'
        go_simp
        have hlt2 : w1.heap.size + 1 < w2.heap.size := Nat.lt_of_lt_of_le hmlt hx2.drew_left.size
        refine hK.out _ _ (hx2.drew_left.cell m0) (fun hS1 => ?_)
        clear hK K
        try simp only [Act.put, List.setIfInBounds_toArray, List.set_cons_zero, List.set_cons_succ]
        refine wpAnyH_take (i := 7) (v := ?bv7) rfl (by kernel_rfl) (by kernel_rfl) (by kernel_rfl) (fun _ _ _ h => h) (Or.inl ⟨by rfl, ?by7⟩) (by assumption) ?br7
        case by7 => first | (intro w hSw; (try dsimp only at hSw); go_simp; done) | (intro w hSw; (try dsimp only at hSw); go_simp; with_reducible rfl)
        case' br7 => try simp only [Act.put, List.setIfInBounds_toArray, List.set_cons_zero, List.set_cons_succ]
        refine wpAnyH_ready (rs := [8]) (by kernel_rfl) (by simp) ?_
        refine AllReadyH.cons rfl (fun K hK => ?_) AllReadyH.nil
        go_simp
        refine hK.out _ _ (by simp [World.cell?_alloc_past, *]) (fun hS2 => ?_)
        clear hK K
        try simp only [Act.put, List.setIfInBounds_toArray, List.set_cons_zero, List.set_cons_succ]
        refine wpAnyH_ready (rs := [9]) (by kernel_rfl) (by simp) ?_
        refine AllReadyH.cons rfl (fun K hK => ?_) AllReadyH.nil
        have hE12 : Ext wr w2 := hx2.drew_left
        have hob := hinv.out.own.block
        have hown := hinv.out.own.ext hE12
        have hy : regR.rel w2 (fun b => b ≠ w1.heap.size + 1 ∧ some b ≠ (Value.slice A1 k c1).ownBlock) [.int .u64 978944, .slice (some ⟨wr.drew.heap.size, 0, none⟩) 4096 4096, .bool true, .bool false] stackReg := by
          refine ⟨_, rfl, hown2.num_sl fun b hb => ⟨by omega, fun h => ?_⟩, ?_, ?_⟩
          · have := (hob b h.symm).2
            omega
          · simp [stackReg]
          · simp [stackReg]
        have hkl : ((l.take k).map regOf).length = k := by rw [List.length_map, List.length_take]; have := HL.out; omega
        refine step_app1 (by rfl) (.tmp 48) (.tmp 52) 60 (by rfl) (w1.heap.size + 2) 74 i0 _ 4 40 Try.underlying60 hin.out hz0 hz1 hz2 rfl regR rfl (.slice A1 k c1) _ (by rfl) hown stackReg (by rfl) hy (by omega) (by omega) (by omega) ?_
        intro A3 c3 w3 hown3 hg3
        rw [hkl] at hown3
        have hc3 : ∀ p v, w2.cell? p = some v → (Value.slice A1 k c1).ownBlock ≠ some p.block → w3.cell? p = some v := fun p v hc hne =>
          (World.cell?_of_block (hg3.block _ (by have := World.block_lt_of_cell? _ _ hc; rw [World.size_alloc]; omega) (fun h => hne h.symm))).trans ((((Ext.refl w2).alloc _).cell hc).trans rfl)
        have q0 := hc3 _ _ (hE12.cell m0) (fun h => by have := (hob _ h).1; simp at this)
        rw [hkl]
        refine hK.out _ _ q0 (fun hS3 => ?_)
        clear hK K
        try simp only [Act.put, List.setIfInBounds_toArray, List.set_cons_zero, List.set_cons_succ]
        refine wpAnyH_take (i := 10) (v := ?bv10) rfl (by kernel_rfl) (by kernel_rfl) (by kernel_rfl) (fun _ _ _ h => h) (Or.inl ⟨by rfl, ?by10⟩) (by assumption) ?br10
        case by10 => first | (intro w hSw; (try dsimp only at hSw); go_simp; done) | (intro w hSw; (try dsimp only at hSw); go_simp; with_reducible rfl)
        case' br10 => try simp only [Act.put, List.setIfInBounds_toArray, List.set_cons_zero, List.set_cons_succ]
        refine wpAnyH_take (i := 11) (v := ?bv11) rfl (by kernel_rfl) (by kernel_rfl) (by kernel_rfl) (fun _ _ _ h => h) (Or.inl ⟨by rfl, ?by11⟩) (by assumption) ?br11
        case by11 => first | (intro w hSw; (try dsimp only at hSw); go_simp; done) | (intro w hSw; (try dsimp only at hSw); go_simp; with_reducible rfl)
        case' br11 => try simp only [Act.put, List.setIfInBounds_toArray, List.set_cons_zero, List.set_cons_succ]
        refine wpAnyH_done (by kernel_rfl) ?_ _
        change wpList _ _ _ _ _ _
        have f3 : ∀ i, w3.frozen? ⟨w1.heap.size + 1, i, none⟩ = false := by
          intro i
          have h1 : w2.frozen? ⟨w1.heap.size + 1, i, none⟩ = false := (hE12.frozen hmlt).trans (hinv.out.fr i)
          have hb : (w2.alloc (Obj.cells #[Value.int IntKind.u64 978944, .slice (some ⟨wr.drew.heap.size, 0, none⟩) 4096 4096, Value.bool true, Value.bool false] 74)).frozen? ⟨w1.heap.size + 1, i, none⟩ = false := (((Ext.refl w2).alloc _).frozen hlt2).trans h1
          exact (World.frozen?_of_block (hg3.block _ (by rw [World.size_alloc]; exact Nat.lt_succ_of_lt hlt2) (fun h => by have := (hob _ h.symm).1; simp at this))).trans hb
        have f30 := f3 0
        have hq0 := hid q0
        have hc31 := hc3 _ _ (hE12.cell hinv.out.c1) (fun h => by have := (hob _ h).1; simp at this)
        have hx3 : Ext w w3 := ((hinv.out.ext.trans hE12).alloc _).grown hg3 (fun j hj => by have := (hob j hj).1; omega)
        have hmp := ((hinv.out.mp.kept (hE12.grownBy none) (by simp)).alloc (Obj.cells #[Value.int IntKind.u64 978944, .slice (some ⟨wr.drew.heap.size, 0, none⟩) 4096 4096, Value.bool true, Value.bool false] 74)).kept hg3 (fun h => by have := (hob _ h.symm).1; omega)
        have HX3 := hid hx3
        have HMP := hid hmp
        have HC31 := hid hc31
        have HO3 := hid hown3
        clear hx3 hmp hc31 hown3 hc3 hy hown
        go_wp2
        go_ret2
        refine ⟨HX3.out.setCell (by simp; omega) _, .inr ⟨HER.out, w1.heap.size + 1, w1.heap.size, rfl, by omega, by omega, ?_⟩⟩
        have e1 : l.take k = l := List.take_of_length_le (by have := HL.out; omega)
        have ho3 := HO3.out
        rw [e1] at ho3
        have ho4 := ho3.set_far (p := ⟨w1.heap.size + 1, 0, none⟩) (u := .slice A3 (k + 1) c3) (fun h => by have := (ho3.block _ h).1; simp at this) (fun b hb => hb)
        have hlen : (regsOf l).length = k + 1 := by simp [regsOf]; exact HL.out.symm
        refine ⟨A3, c3, .map [], ?_, ?_, ?_, ?_, (mapOf_empty _ _).symm⟩
        · rw [hlen]; simp [World.cell?_setCell_same, hq0.out]
        · exact (World.cell?_setCell_other _ _ _ _ (by simp)).trans HC31.out
        · rw [hlen]; exact ho4.sl
        · exact HMP.out.kept (grownBy_set _ _ _) (by simp)
  · have h0' : ((er : Int) != 0) = true := by simp; exact h0
    go_wp2
    go_ret2
    exact ⟨HX.out, .inl ⟨by rw [HER.out]; exact h0, by rw [HER.out]; rfl⟩⟩
end Go.Proofs.Ytjfdbfbdkjfgpaa
