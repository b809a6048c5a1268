/- The law SymbolManyRejected. -/
import Derived.Test.YtekilcnkinmakaaDoorSymX
namespace Go.Proofs.YtekilcnkinmakaaDoor
open Go.RowKit Go.Deco
set_option linter.unusedSimpArgs false
set_option linter.unusedVariables false

def manyS (a i : Nat) : Sy := ⟨strOf [97 + i % 16, 97 + i / 16], a, 2⟩
def manyL (a k : Nat) : List Sy := (List.range k).map (manyS a)
theorem manyL_snoc (a k : Nat) : manyL a (k + 1) = manyL a k ++ [manyS a k] := by simp [manyL, List.range_succ]
theorem manyL_len (a k : Nat) : (manyL a k).length = k := by simp [manyL]
theorem many_name : ∀ i, i < 256 → nameB (strOf [97 + i % 16, 97 + i / 16]) = true := by decide +kernel
theorem many_inj {a i j : Nat} (hi : i < 256) (hj : j < 256) (h : (manyS a i).key = (manyS a j).key) : i = j := by
  have e : [UInt8.ofNat (97 + i % 16), UInt8.ofNat (97 + i / 16)] = [UInt8.ofNat (97 + j % 16), UInt8.ofNat (97 + j / 16)] := h
  simp only [List.cons.injEq, and_true] at e
  have e1 := congrArg UInt8.toNat e.1
  have e2 := congrArg UInt8.toNat e.2
  simp only [UInt8.toNat_ofNat'] at e1 e2
  omega
theorem dup_no : ∀ (l pre : List Sy), (∀ x ∈ l, ∀ y ∈ pre, x.key ≠ y.key) → l.Pairwise (fun x y => x.key ≠ y.key) → dupTo pre l = false
  | [], _, _, _ => rfl
  | s :: r, pre, h, hp => by
    rw [List.pairwise_cons] at hp
    have h0 : (pre.map Sy.key).contains s.key = false := by
      rw [Bool.eq_false_iff]
      intro hc
      rw [List.contains_iff_mem, List.mem_map] at hc
      obtain ⟨y, hy, e⟩ := hc
      exact h s (by simp) y hy e.symm
    rw [dupTo, h0, Bool.false_or]
    refine dup_no r _ (fun x hx y hy => ?_) hp.2
    rcases List.mem_append.1 hy with hy | hy
    · exact h x (by simp [hx]) y hy
    · rw [List.mem_singleton] at hy
      subst hy
      exact fun e => hp.1 x hx e.symm
theorem many_check (a : Nat) : symCheck (manyL a 256) = 0 := by
  refine symCheck_ok (by rw [manyL_len]; omega) ?_ ?_ ?_
  · rw [List.all_eq_true]
    intro x hx
    obtain ⟨i, hi, rfl⟩ := List.mem_map.1 hx
    exact many_name i (List.mem_range.1 hi)
  · refine dup_no _ [] (by simp) ?_
    rw [manyL, List.pairwise_map]
    have : (List.range 256).Pairwise (fun i j => i < 256 ∧ j < 256 ∧ i < j) := by
      rw [List.pairwise_iff_getElem]
      intro i j hi hj hij
      simp at hi hj ⊢
      omega
    exact this.imp fun h e => by have := many_inj h.1 h.2.1 e; omega
  · rw [List.all_eq_true]
    intro x hx
    obtain ⟨i, hi, rfl⟩ := List.mem_map.1 hx
    rfl
theorem many_over (a : Nat) (s : Sy) : symCheck (manyL a 256 ++ [s]) = 6 := symCheck_many (by rw [List.length_append, manyL_len]; simp)
theorem info_sym : (Tryd.prog.info? 27).map (fun i => (i.zero, i.size, i.bytes)) = some (some (.agg #[.string ⟨#[]⟩, .int .u32 0, .int .i64 0]), 3, 32) := by kernel_rfl

/-- An append of one element just laid, at a guarded operation. -/
theorem wp_app1 {E : Type} {P : Program} {T : Nat → Prop} {o : Oper} {a : Act} {K : Act → World → Prop} {Q : Exit → Act → World → Prop} {W : World} {cs : List Value} {u : TypeId} (s x : Operand) (t : TypeId)
    (ho : o.op = .call { callee := .builtin .append, args := #[s, x], argTypes := #[t, t] })
    (base : Nat) (e : TypeId) (i : TypeInfo) (z : Value) (size bytes : Nat) (ht : P.underlying t = some (.slice e)) (hi : P.info? e = some i) (hz : i.zero = some z)
    (hsize : i.size = size) (hby : i.bytes = bytes) (hzs : z.cells.size = size) (R : Rep E) (hR : R.size = size)
    (v : Value) (l : List E) (hs : a.eval s = v) (hown : OwnS R W base e T v l)
    (y : E) (hx : a.eval x = .slice (some ⟨W.heap.size, 0, none⟩) 1 1) (hy : R.rel W (fun b => T b ∧ some b ≠ v.ownBlock) cs y)
    (h63 : l.length + 1 ≤ 9223372036854775807) (hbytes : (l.length + 1) * bytes ≤ 140737488355328) (hbase : base ≤ W.heap.size)
    (h : ∀ A' c' W', OwnS R W' base e T (.slice A' (l.length + 1) c') (l ++ [y]) → (W.alloc (.cells cs.toArray u)).grownBy W' v.ownBlock →
      K (a.put o.dst (.slice A' (l.length + 1) c')) W') :
    Oper.wp P o a (W.alloc (.cells cs.toArray u)) K Q := by
  obtain ⟨A', c', W', hrun, h2, h3, h4⟩ := run_append_sl (P := P) (W.alloc (.cells cs.toArray u)) t o.type e i z size bytes ht hi hz hsize hby hzs hR v l (hown.al _) ⟨W.heap.size, 0, none⟩ 1 1 [y] cs rfl
    (Chunks.single (R.ext ((Ext.refl W).alloc _) hy)) (new_cells W cs u) h63 hbytes (by simp; omega)
  unfold Oper.wp execOp
  simp only [ho, resolve, invoke, builtin, Sem.run_bind, Sem.run_pure, Result.andThen_ok, List.map_toArray, List.map_cons, List.map_nil, hs, hx, hrun]
  exact h A' c' W' h2 h3
set_option maxRecDepth 100000 in
set_option maxHeartbeats 4000000 in
theorem many_any (w : World) (ht : TabAt w) (s : Sy) (hs : SyOk s) :
    Calls Tryd.prog 5 #[syVal s] w (OneBool w true) := by
  obtain ⟨i0, hi, hz0, hz1, hz2⟩ := info_parts info_sym
  have HI := hid hi
  have HZ0 := hid hz0
  have HZ1 := hid hz1
  have HZ2 := hid hz2
  have HT := hid ht
  have HS := hid hs
  have ha := hs.1
  obtain ⟨a, hsa⟩ : ∃ a, s.addr = a := ⟨_, rfl⟩
  rw [hsa] at ha
  have HA := hid hsa
  obtain ⟨W0, hW0⟩ : ∃ W0, w.alloc (.cells #[.string s.name, .int .u32 s.addr, .int .i64 s.kind] 27) = W0 := ⟨_, rfl⟩
  have hc1 : W0.cell? ⟨w.heap.size, 1, none⟩ = some (.int .u32 a) := by rw [← hW0, hsa]; simp [go_sem]
  have HE0 := hid (show Ext w W0 by rw [← hW0]; exact (Ext.refl w).alloc _)
  have HC0 := hid (show SyAt W0 w.heap.size s by rw [← hW0]; exact SyAt.new w s 27)
  have HC1 := hid hc1
  clear hi hz0 hz1 hz2 ht hs hc1 hsa
  unfold syVal
  go_enter Tryd.func5, Tryd.ntmps5
  go_wp2
  clear hW0
  go_loopw [3, 4] (fun v i wr => ∃ (j : Nat) (A' : Option Addr) (c' : Nat), j ≤ 256 ∧ i = .int .i64 j ∧ v = .slice A' j c' ∧ Hid (OwnS symR wr W0.heap.size 27 All (.slice A' j c') (manyL a j)) ∧ Hid (Ext W0 wr)) (fun _ i _ => 256 - (intOf i).toNat)
  case atStart => exact ⟨0, none, 0, by omega, rfl, rfl, hid OwnS.nil, hid (Ext.refl _)⟩
  case round =>
    obtain ⟨j, A', c', hj, rfl, rfl, HO, HX⟩ := hrel
    by_cases h1 : j < 256
    · obtain ⟨p, hp⟩ : ∃ p, j % 16 = p := ⟨_, rfl⟩
      obtain ⟨q, hq⟩ : ∃ q, j / 16 = q := ⟨_, rfl⟩
      have hp' : (j : Int) % 16 = (p : Int) := by omega
      have hq' : (j : Int) / 16 = (q : Int) := by omega
      have hp16 : p < 16 := by omega
      have hq16 : q < 16 := by omega
      have HP := hid hp
      have HQ := hid hq
      have c1 := HX.out.cell HC1.out
      obtain ⟨st, hst⟩ : ∃ st, strOf [97 + p, 97 + q] = st := ⟨_, rfl⟩
      have hsl : Sl u8R (wr.alloc (.cells #[.int .u8 (97 + (p : Int)), .int .u8 (97 + (q : Int))] 5)) All (.slice (some ⟨wr.heap.size, 0, none⟩) 2 2) [97 + p, 97 + q] :=
        sl_of_chunks (R := u8R) (l := [97 + p, 97 + q]) (c := 2) (xs := [.int .u8 (97 + (p : Int)), .int .u8 (97 + (q : Int))]) trivial (chunks_num.2 ⟨by simp, by simp; omega⟩) (fun j u hu => by simpa using hu) (by simp) (by simp [maxLen])
      have hcv := run_str (P := Tryd.prog) 33 9 5 Tryd.underlying33 Tryd.underlying5 Tryd.underlying9 hsl
      rw [hst] at hcv
      have hrel : ∀ (W : World) (S : Nat → Prop), symR.rel W S [.string st, .int .u32 a, .int .i64 2] (manyS a j) := fun W S => by
        refine ⟨?_, ha, ?_, by show (-9223372036854775808 : Int) ≤ 2; omega, by show (2 : Int) ≤ 9223372036854775807; omega⟩
        · rw [← hst, ← HP.out, ← HQ.out]; rfl
        · show (strOf _).size ≤ maxLen
          rw [strOf_size]
          simp [maxLen]
      have HR := hid hrel
      have HX1 := hid ((Ext.refl wr).alloc (.cells #[.int .u8 (97 + (p : Int)), .int .u8 (97 + (q : Int))] 5))
      have HO1 := hid (HO.out.ext HX1.out)
      have HX2 := hid (HX.out.trans HX1.out)
      have HML := hid (manyL_len a j)
      have hbr : w.heap.size < wr.heap.size := World.block_lt_of_cell? _ _ c1
      clear hst hsl hrel
      go_wp2_with (first
        | (at_builtin; refine wpList_app1s rfl (.tmp 9) (.tmp 23) 22 rfl W0.heap.size 27 i0 _ 3 32 Tryd.underlying22 HI.out HZ0.out HZ1.out HZ2.out rfl symR rfl (.slice A' j c') (manyL a j) rfl HO1.out (wr.heap.size + 1) (by simp) (manyS a j) rfl (HR.out _ _) (by have := HML.out; omega) (by have := HML.out; omega) (by exact HX2.out.size) ?_; intro A5 c5 w5 hown5 hg5; rw [HML.out] at hown5; have HO5 := hid hown5; have HX5 := hid ((HX2.out.alloc _).grown hg5 (fun k hk => (HO1.out.block _ hk).1)); clear hown5 hg5; rw [HML.out])
        | fail)
      first
        | go_roundw
        | refine ⟨?rel, ?measure⟩
      case rel => exact ⟨j + 1, A5, c5, by omega, by go_num, rfl, hid (by rw [manyL_snoc]; exact HO5.out), HX5⟩
      case measure => simp [intOf]; omega
    · obtain rfl : j = 256 := by omega
      have hck := many_check a
      have HCK := hid hck
      clear hck
      go_wp2_with fail
      refine (sycheck_any wr A' 256 c' (manyL a 256) (by have := HO.out.sl; exact this)).mono ?_
      rintro e w1 ⟨rfl, hx1⟩
      rw [HCK.out]
      have HX1 := hid (HX.out.trans hx1)
      have HO1 := hid (HO.out.ext hx1)
      obtain ⟨z0, z1, z2, -⟩ := HC0.out.ext HX1.out
      have HML := hid (manyL_len a 256)
      clear hx1
      go_wp2_with fail
      refine wp_app1 (.tmp 29) (.tmp 31) 22 (by rfl) W0.heap.size 27 i0 _ 3 32 Tryd.underlying22 HI.out HZ0.out HZ1.out HZ2.out rfl symR rfl (.slice A' 256 c') (manyL a 256) (by rfl) HO1.out s (by rfl) ⟨rfl, HS.out⟩ (by have := HML.out; omega) (by have := HML.out; omega) (by exact HX1.out.size) ?_
      intro A5 c5 w5 hown5 hg5
      rw [HML.out] at hown5
      have HO5 := hid hown5
      have HX5 := hid ((HX1.out.alloc _).grown hg5 (fun k hk => (HO1.out.block _ hk).1))
      have HOV := hid (many_over a s)
      clear hown5 hg5
      rw [HML.out]
      go_wp2_with fail
      refine (sycheck_any w5 A5 257 c5 (manyL a 256 ++ [s]) (by have := HO5.out.sl; exact this)).mono ?_
      rintro e w6 ⟨rfl, hx6⟩
      rw [HOV.out]
      have HX6 := hid (HX5.out.trans hx6)
      clear hx6
      go_wp2_with fail
      refine (example_any _ (HT.out.ext (HE0.out.trans HX6.out))).mono ?_
      rintro e w7 ⟨rfl, hx7⟩
      have HX7 := hid (HE0.out.trans (HX6.out.trans hx7))
      clear hx7
      go_wp2
      go_ret
      exact ⟨rfl, HX7.out⟩
end Go.Proofs.YtekilcnkinmakaaDoor
