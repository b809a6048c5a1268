/- copy into a row of numbers that the call owns, and the cut s[k:] of such a row. No program in sight. -/
import Derived.Test.YtnlofhbimfcejaaBase
import Derived.Test.YtnlofhbimfcejaaSlc
namespace Go.Deco
open Go Go.RowKit
set_option linter.unusedVariables false
set_option linter.unusedSimpArgs false

section
variable {P : Program} {kd : IntKind} {bd base n c g f : Nat} {w : World} {t8 : TypeId} {T S : Nat → Prop} {l ys : List Nat}
theorem add_noneC (b off k : Nat) : (⟨b, off, none⟩ : Addr).add k = ⟨b, off + k, none⟩ := by
  unfold Addr.add
  split
  · subst_vars; rfl
  · rfl
theorem slice_from {t e : TypeId} {ti : TypeInfo} (ht : P.underlying t = some (.slice e)) (hi : P.info? e = some ti) (hsz : ti.size = 1) (hf : f ≤ n) (hn : n ≤ c) (hc : c ≤ 9223372036854775807) (hlt : f < c) (W : World) :
    (Instr.sliceAt t (.slice (some ⟨g, 0, none⟩) n c) (some (.int .i64 f)) none none).run P W = .ok (.slice (some ⟨g, f, none⟩) (n - f) (c - f)) W := by
  have hel : P.elem t = e := by simp [Program.elem, ht]
  have ht' : P.underlying t = some (.slice (P.elem t)) := by rw [hel]; exact ht
  have hs : (sizeOf (P.elem t)).run P W = .ok 1 W := by rw [hel]; simp [sizeOf, typeInfo, hi, hsz]
  rw [run_sliceAt_slice (h := ht'), run_slice_l (ht := ht') (h0 := by omega) (h1 := by omega), hs]
  simp [sliced, slicedAt, add_noneC, show ¬ c = f by omega]

theorem own_setRow (h : OwnS (numR kd bd) w base t8 T (.slice (some ⟨g, 0, none⟩) n c) l) (hf : f + ys.length ≤ n) (hy : ∀ y ∈ ys, y < bd) :
    ∃ cur, w.heap[g]? = some (.cells cur t8 (0, 0)) ∧ f + ys.length ≤ cur.size ∧
      OwnS (numR kd bd) (w.setRow g (cur.toList.take f ++ (ys.map fun y : Nat => Value.int kd y) ++ cur.toList.drop (f + (ys.map fun y : Nat => Value.int kd y).length)).toArray) base t8 T (.slice (some ⟨g, 0, none⟩) n c) (l.take f ++ ys ++ l.drop (f + ys.length)) ∧
      w.grownBy (w.setRow g (cur.toList.take f ++ (ys.map fun y : Nat => Value.int kd y) ++ cur.toList.drop (f + (ys.map fun y : Nat => Value.int kd y).length)).toArray) (some g) := by
  have hn := h.len
  obtain ⟨xs, ⟨h1, h2⟩, hc⟩ := h
  obtain ⟨rfl, hb⟩ := chunks_num.1 hc
  rcases h2 with ⟨hv, _⟩ | ⟨g', cap, cur, hv, hbase, hg, q1, q2, q3, q4⟩
  · cases hv
  · injection hv with e1 e2 e3
    injection e1 with e1
    injection e1 with e1 _ _
    subst e1
    subst e3
    have q3' : cur.size = c := by simpa [numR] using q3
    have hl : (l.take f ++ ys ++ l.drop (f + ys.length)).length = l.length := by simp; omega
    have hfc : f + ys.length ≤ cur.size := by omega
    refine ⟨cur, hg, hfc, ⟨(l.take f ++ ys ++ l.drop (f + ys.length)).map (fun y : Nat => Value.int kd y), ⟨by simp [numR, hl], .inr ⟨g, c, _, by rw [hl, ← hn], hbase, setRow_heap w g cur _ t8 _ hg, by rw [hl]; omega, q2, ?_, ?_⟩⟩, chunks_num.2 ⟨rfl, fun x hx => ?_⟩⟩, ?_⟩
    · have : cur.toList.length = cur.size := Array.length_toList
      simp [numR, q3']
      omega
    · have e : cur.toList.take (l.length * 1) = l.map (fun y : Nat => Value.int kd y) := by simpa [numR] using q4
      rw [hl]
      have hcl : cur.toList.length = c := by rw [Array.length_toList, q3']
      have e2 : cur.toList = l.map (fun y : Nat => Value.int kd y) ++ cur.toList.drop l.length := by
        have := List.take_append_drop l.length cur.toList
        rw [Nat.mul_one] at e
        rw [e] at this
        exact this.symm
      obtain ⟨M, hM⟩ : ∃ M, l.map (fun y : Nat => Value.int kd y) = M := ⟨_, rfl⟩
      obtain ⟨R, hR⟩ : ∃ R, cur.toList.drop l.length = R := ⟨_, rfl⟩
      obtain ⟨Y, hY⟩ : ∃ Y, ys.map (fun y : Nat => Value.int kd y) = Y := ⟨_, rfl⟩
      have hMl : M.length = l.length := by rw [← hM, List.length_map]
      have hYl : Y.length = ys.length := by rw [← hY, List.length_map]
      rw [hM, hR] at e2
      show List.take (l.length * 1) _ = _
      rw [Nat.mul_one, hY]
      have a1 : cur.toList.take f = M.take f := by rw [e2, List.take_append_of_le_length (by omega)]
      have a2 : cur.toList.drop (f + Y.length) = M.drop (f + Y.length) ++ R := by rw [e2, List.drop_append_of_le_length (by omega)]
      have a3 : (l.take f ++ ys ++ l.drop (f + ys.length)).map (fun y : Nat => Value.int kd y) = M.take f ++ Y ++ M.drop (f + Y.length) := by
        rw [← hM, ← hY, List.map_append, List.map_append, List.map_take, List.map_drop, List.length_map]
      rw [a3]
      show List.take l.length (cur.toList.take f ++ Y ++ cur.toList.drop (f + Y.length)) = _
      rw [a1, a2, ← List.append_assoc, List.take_append_of_le_length (by simp; omega), List.take_of_length_le (by simp; omega)]
    · rcases List.mem_append.1 hx with hx | hx
      · rcases List.mem_append.1 hx with hx | hx
        · exact hb x (List.mem_of_mem_take hx)
        · exact hy x hx
      · exact hb x (List.mem_of_mem_drop hx)
    · exact ⟨rfl, rfl, rfl, by simp [World.setRow], fun k _ hk => setRow_other w g k _ (fun e => hk (by rw [e]))⟩

theorem step_copy_num {ops : Array Oper} {o : Oper} {a : Act} {K : Act → World → Prop} {Q : Exit → Act → World → Prop} {X : Prop} (hgd : o.guard = none) (d s : Operand) (dT sT : TypeId)
    (ho : o.op = .call { callee := .builtin .copy, args := #[d, s], argTypes := #[dT, sT] }) (elem : TypeId) (hu : P.underlying dT = some (.slice elem)) (hsz : (P.info? elem).map (·.size) = some 1)
    (g f dLen dCap : Nat) (sA : Option Addr) (sLen sCap : Nat) (hd : a.eval d = .slice (some ⟨g, f, none⟩) dLen dCap) (hs : a.eval s = .slice sA sLen sCap)
    (hown : OwnS (numR kd bd) w base t8 T (.slice (some ⟨g, 0, none⟩) n c) l) (hsrc : Sl (numR kd bd) w S (.slice sA sLen sCap) ys) (hpos : 0 < sLen) (hle : sLen ≤ dLen) (hf : f + sLen ≤ n)
    (h : ∀ w', OwnS (numR kd bd) w' base t8 T (.slice (some ⟨g, 0, none⟩) n c) (l.take f ++ ys ++ l.drop (f + sLen)) → w.grownBy w' (some g) → K (a.put o.dst (goInt sLen)) w') :
    if Region.wanted o (yielded ops a.tmps) = true then Oper.wp P o a w K Q else X := by
  have hw : Region.wanted o (yielded ops a.tmps) = true := by simp [Region.wanted, hgd]
  rw [if_pos hw]
  have hln := hsrc.len
  subst hln
  obtain ⟨cur, hg, hcs, h1, h2⟩ := own_setRow hown hf hsrc.num_lt
  obtain ⟨b, off, rfl⟩ := hsrc.at0 hpos
  obtain ⟨xs, hx, hxc⟩ := hsrc.chunksA
  obtain ⟨rfl, _⟩ := chunks_num.1 hx
  have hrun := run_copy_row (P := P) w dT sT o.type elem g f dLen dCap ⟨b, off, none⟩ ys.length sCap cur t8 (ys.map fun y : Nat => Value.int kd y) hu hsz hg (by rw [List.length_map]; exact (Nat.min_eq_left hle).symm) hxc (by simpa using hcs) (fun v hv => by
    obtain ⟨y, _, rfl⟩ := List.mem_map.1 hv
    rfl)
  unfold Oper.wp
  simp only [execOp, ho, resolve, invoke, builtin, Sem.run_bind, Sem.run_pure, Result.andThen_ok, List.map_toArray, List.map_cons, List.map_nil, hd, hs, hrun]
  rw [List.length_map] at *
  exact h _ h1 h2
theorem wpList_copy_num {ops : Array Oper} {rest : List Oper} {o : Oper} {a : Act} {Q : Exit → Act → World → Prop} (hgd : o.guard = none) (d s : Operand) (dT sT : TypeId)
    (ho : o.op = .call { callee := .builtin .copy, args := #[d, s], argTypes := #[dT, sT] }) (elem : TypeId) (hu : P.underlying dT = some (.slice elem)) (hsz : (P.info? elem).map (·.size) = some 1)
    (g f dLen dCap : Nat) (sA : Option Addr) (sLen sCap : Nat) (hd : a.eval d = .slice (some ⟨g, f, none⟩) dLen dCap) (hs : a.eval s = .slice sA sLen sCap)
    (hown : OwnS (numR kd bd) w base t8 T (.slice (some ⟨g, 0, none⟩) n c) l) (hsrc : Sl (numR kd bd) w S (.slice sA sLen sCap) ys) (hpos : 0 < sLen) (hle : sLen ≤ dLen) (hf : f + sLen ≤ n)
    (h : ∀ w', OwnS (numR kd bd) w' base t8 T (.slice (some ⟨g, 0, none⟩) n c) (l.take f ++ ys ++ l.drop (f + sLen)) → w.grownBy w' (some g) → wpList P ops Q rest (a.put o.dst (goInt sLen)) w') :
    wpList P ops Q (o :: rest) a w :=
  wpList_plain hgd fun K hK => by
    have := step_copy_num (P := P) (Q := Q) (X := True) (ops := #[]) (K := K) hgd d s dT sT ho elem hu hsz g f dLen dCap sA sLen sCap hd hs hown hsrc hpos hle hf (fun w' h1 h2 => hK _ _ (h w' h1 h2))
    rwa [if_pos (by simp [Region.wanted, hgd])] at this
end
end Go.Deco
