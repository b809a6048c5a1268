/- decompilerref05: Copy, Copies: each section's bytes in a block of their own. -/
import Derived.Test.YtnlofhbimfcejaaRelF
import Derived.Test.YtnlofhbimfcejaaClone8
import Derived.Test.YtnlofhbimfcejaaApp
namespace Go.Proofs.Ytnlofhbimfcejaa
open Go.RowKit Go.Deco
set_option linter.unusedSimpArgs false
set_option linter.unusedVariables false

theorem ext_of_none {w w' : World} (h : w.grownBy w' none) : Ext w w' := (Ext.refl w).grown h (fun k hk => by cases hk)
def CopyPostX (w : World) (s : Sec) (e : Ending) (w' : World) : Prop :=
  ∃ A c, e = .returned (.agg #[.string s.name, .int .u32 s.addr, .slice A s.data.length c, .bool s.wr, .bool s.ex]) ∧ OwnS u8R w' w.heap.size 5 (fun _ => False) (.slice A s.data.length c) s.data ∧ Ext w w'

set_option maxRecDepth 100000 in
set_option maxHeartbeats 1000000 in
theorem copy5x_any (wo w : World) (ho : Ext wo w) (s : Sec) (A : Option Addr) (c : Nat) (hd : Sl u8R wo All (.slice A s.data.length c) s.data) (hm : s.data.length ≤ 65536) :
    Calls Try.prog 65 #[.agg #[.string s.name, .int .u32 s.addr, .slice A s.data.length c, .bool s.wr, .bool s.ex]] w (CopyPostX w s) := by
  obtain ⟨i0, hi, hz0, hz1, hz2⟩ := info_parts info_u8
  obtain ⟨D, hD⟩ : ∃ D, s.data = D := ⟨_, rfl⟩
  obtain ⟨n, hn⟩ : ∃ n, s.data.length = n := ⟨_, rfl⟩
  have hDn : D.length = n := by rw [← hD, hn]
  rw [hn] at hd hm ⊢
  rw [hD] at hd
  have HD := hid hd; clear hd
  have HDE := hid hD; clear hD
  have HN := hid hn; clear hn
  have HDN := hid hDn; clear hDn
  have HO := hid ho; clear ho
  have HI := hid hi; clear hi
  obtain ⟨W0, hW0⟩ : ∃ W0, ((w.alloc (Obj.cells #[.string s.name, .int .u32 s.addr, .slice A n c, .bool s.wr, .bool s.ex] 46)).alloc (Obj.cells #[.string ⟨#[]⟩, .int .u32 0, .slice none 0 0, .bool false, .bool false] 46)) = W0 := ⟨_, rfl⟩
  have hE : Ext w W0 := by rw [← hW0]; exact ((Ext.refl w).alloc _).alloc _
  have hsz : W0.heap.size = w.heap.size + 2 := by rw [← hW0]; simp
  have q0 : W0.cell? ⟨w.heap.size, 0, none⟩ = some (.string s.name) := by rw [← hW0]; simp
  have q1 : W0.cell? ⟨w.heap.size, 1, none⟩ = some (.int .u32 s.addr) := by rw [← hW0]; simp
  have q2 : W0.cell? ⟨w.heap.size, 2, none⟩ = some (.slice A n c) := by rw [← hW0]; simp
  have q3 : W0.cell? ⟨w.heap.size, 3, none⟩ = some (.bool s.wr) := by rw [← hW0]; simp
  have q4 : W0.cell? ⟨w.heap.size, 4, none⟩ = some (.bool s.ex) := by rw [← hW0]; simp
  have fq : ∀ j, W0.frozen? ⟨w.heap.size, j, none⟩ = false := by intro j; rw [← hW0]; simp
  have r0 : W0.cell? ⟨w.heap.size + 1, 0, none⟩ = some (.string ⟨#[]⟩) := by rw [← hW0]; simp
  have r1 : W0.cell? ⟨w.heap.size + 1, 1, none⟩ = some (.int .u32 0) := by rw [← hW0]; simp
  have r2 : W0.cell? ⟨w.heap.size + 1, 2, none⟩ = some (.slice none 0 0) := by rw [← hW0]; simp
  have r3 : W0.cell? ⟨w.heap.size + 1, 3, none⟩ = some (.bool false) := by rw [← hW0]; simp
  have r4 : W0.cell? ⟨w.heap.size + 1, 4, none⟩ = some (.bool false) := by rw [← hW0]; simp
  have fr : ∀ j, W0.frozen? ⟨w.heap.size + 1, j, none⟩ = false := by intro j; rw [← hW0]; simp
  have HE := hid hE
  have HSZ := hid hsz
  have HQ := hid (And.intro q0 (And.intro q1 (And.intro q2 (And.intro q3 (And.intro q4 fq)))))
  have HR := hid (And.intro r0 (And.intro r1 (And.intro r2 (And.intro r3 (And.intro r4 fr)))))
  clear hE hsz q0 q1 q3 q4 fq r0 r1 r2 r3 r4 fr
  go_enter Try.func65, Try.ntmps65
  go_wp2_with (first
    | (at_builtin; refine wpList_appS rfl (.tmp 4) (.tmp 6) 44 rfl (w.heap.size + 2) 5 i0 _ 1 1 Try.underlying44 HI.out hz0 hz1 hz2 rfl u8R rfl (.slice none 0 0) [] rfl (OwnS.nil (T := All)) A n c D (fun b => b < w.heap.size) rfl (((HD.out.ext HO.out).mono (fun b _ h => h.lt)).ext HE.out) (fun _ hb _ => ⟨trivial, own_nil⟩) (by simp; omega) (by simp; omega) (by have := HSZ.out; omega) ?_; intro A' c' w2 hown2 hg2 hloc; simp only [List.length_nil, Nat.zero_add, List.nil_append] at hown2; have HO2 := hid hown2; have HX2 := hid (ext_of_none hg2); clear hown2 hg2 hloc q2 hW0; simp only [List.length_nil, Nat.zero_add]; obtain ⟨q0, q1, q2, q3, q4, fq⟩ := HQ.out; obtain ⟨r0, r1, r2, r3, r4, fr⟩ := HR.out; have hs2 : w.heap.size + 1 < w2.heap.size := (by have := HX2.out.size; have := HSZ.out; omega); have q0 := HX2.out.cell q0; have q1 := HX2.out.cell q1; have q2 := HX2.out.cell q2; have q3 := HX2.out.cell q3; have q4 := HX2.out.cell q4; have r0 := HX2.out.cell r0; have r1 := HX2.out.cell r1; have r2 := HX2.out.cell r2; have r3 := HX2.out.cell r3; have r4 := HX2.out.cell r4; have f2 := (HX2.out.frozen (p := ⟨w.heap.size, 2, none⟩) (by have := HSZ.out; simp; omega)).trans (fq 2); have f0 := (HX2.out.frozen (p := ⟨w.heap.size + 1, 0, none⟩) (by have := HSZ.out; simp; omega)).trans (fr 0); have f1 := (HX2.out.frozen (p := ⟨w.heap.size + 1, 1, none⟩) (by have := HSZ.out; simp; omega)).trans (fr 1); have g2 := (HX2.out.frozen (p := ⟨w.heap.size + 1, 2, none⟩) (by have := HSZ.out; simp; omega)).trans (fr 2); have f3 := (HX2.out.frozen (p := ⟨w.heap.size + 1, 3, none⟩) (by have := HSZ.out; simp; omega)).trans (fr 3); have f4 := (HX2.out.frozen (p := ⟨w.heap.size + 1, 4, none⟩) (by have := HSZ.out; simp; omega)).trans (fr 4); clear fq fr)
    | fail)
  refine bodyPost_ret (v := .agg #[.string s.name, .int .u32 s.addr, .slice A' n c', .bool s.wr, .bool s.ex]) (by simp [results, Try.results65, go_sem, World.cell?_setCell_same, World.cell?_setCell_other, r0, r1, r2, r3, r4]) rfl ?_
  refine ⟨A', c', by rw [HN.out], ?_, ?_⟩
  · rw [HN.out, HDE.out]
    have hfar : ∀ q, q = w.heap.size ∨ q = w.heap.size + 1 → (Value.slice A' n c').ownBlock ≠ some q := fun q hq e => by
      have := (HO2.out.block q e).1
      omega
    have h0 : OwnS u8R w2 (w.heap.size + 2) 5 (fun _ => False) (.slice A' n c') D := by
      obtain ⟨xs, ho, hc⟩ := HO2.out
      exact ⟨xs, ho, chunks_num.2 (chunks_num.1 hc)⟩
    exact ((((((h0.set_far (hfar _ (.inl rfl)) (fun _ h => h.elim)).set_far (hfar _ (.inr rfl)) (fun _ h => h.elim)).set_far (hfar _ (.inr rfl)) (fun _ h => h.elim)).set_far (hfar _ (.inr rfl)) (fun _ h => h.elim)).set_far (hfar _ (.inr rfl)) (fun _ h => h.elim)).set_far (hfar _ (.inr rfl)) (fun _ h => h.elim)).lower (by omega)
  · exact ((((((HE.out.trans HX2.out).setCell (by simp) _).setCell (by simp) _).setCell (by simp) _).setCell (by simp) _).setCell (by simp) _).setCell (by simp) _

theorem SecsX.push {w W w' : World} {base : Nat} {tS t8 : TypeId} {A' A2 : Option Addr} {k c' c2 : Nat} {H : List Hd} {l : List Sec} {h : Hd} {s : Sec} {o : Obj} (x : SecsX w base w.heap.size tS t8 (.slice A' k c') H l) (hx : Ext w W) (hof : HdOf h s)
    (hd : OwnS u8R W w.heap.size t8 (fun _ => False) h.dv s.data) (hb : base ≤ w.heap.size) (hrow : OwnS hdrR w' base tS (fun _ => False) (.slice A2 (k + 1) c2) (H ++ [h])) (hg : (W.alloc o).grownBy w' (Value.slice A' k c').ownBlock)
    (hl : ∀ g, (Value.slice A2 (k + 1) c2).ownBlock = some g → (Value.slice A' k c').ownBlock = some g ∨ W.heap.size < g) : SecsX w' base w'.heap.size tS t8 (.slice A2 (k + 1) c2) (H ++ [h]) (l ++ [s]) := by
  have hWw := hx.size
  have hgs : W.heap.size < w'.heap.size := by have := hg.size; simp at this; omega
  have hat : ∀ (j : Nat) h', (H ++ [h])[j]? = some h' → (j < H.length ∧ H[j]? = some h') ∨ (j = H.length ∧ h' = h) := fun j h' hh => by
    by_cases hj : j < H.length
    · rw [List.getElem?_append_left hj] at hh
      exact .inl ⟨hj, hh⟩
    · rw [List.getElem?_append_right (by omega)] at hh
      have : j - H.length = 0 := by
        have := (List.getElem?_eq_some_iff.1 hh).1
        simp at this
        omega
      rw [this] at hh
      simp at hh
      exact .inr ⟨by omega, hh.symm⟩
  have hats : ∀ (j : Nat) s', (l ++ [s])[j]? = some s' → (j < H.length → l[j]? = some s') ∧ (j = H.length → s' = s) := fun j s' hh => by
    have := x.len
    refine ⟨fun hj => ?_, fun hj => ?_⟩
    · rwa [List.getElem?_append_left (by omega)] at hh
    · rw [List.getElem?_append_right (by omega), show j - l.length = 0 by omega] at hh
      simp at hh
      exact hh.symm
  have old : ∀ b, b < W.heap.size → (Value.slice A' k c').ownBlock ≠ some b → w'.heap[b]? = W.heap[b]? := fun b hb1 hb2 => (hg.block b (by simp; omega) (fun e => hb2 e.symm)).trans (((Ext.refl W).alloc o).block hb1)
  have hA' : ∀ b, (Value.slice A' k c').ownBlock = some b → b < w.heap.size := x.topv
  have hnew : ∀ b, h.dv.ownBlock = some b → w.heap.size ≤ b ∧ b < W.heap.size := fun b hb1 => hd.block b hb1
  refine ⟨hrow, by simp [x.len], fun j h' s' hh hs' => ?_, fun j h' s' hh hs' => ?_, fun j h' b hh hb1 => ?_, fun i j h1 h2 b hij hh1 hh2 hb1 => ?_, fun b hb1 => (hrow.block b hb1).2, fun j h' b hh hb1 => ?_⟩
  · rcases hat j h' hh with ⟨hj, hh'⟩ | ⟨hj, rfl⟩
    · exact x.of j h' s' hh' ((hats j s' hs').1 hj)
    · rw [(hats j s' hs').2 hj]
      exact hof
  · rcases hat j h' hh with ⟨hj, hh'⟩ | ⟨hj, rfl⟩
    · have h0 := x.data j h' s' hh' ((hats j s' hs').1 hj)
      refine ((h0.ext hx).al o).kept hg ?_ (fun _ h => h.elim)
      cases e : h'.dv.ownBlock with
      | none => exact .inl rfl
      | some b => exact .inr (fun e' => x.apart j h' b hh' e (e'.symm ▸ rfl))
    · rw [(hats j s' hs').2 hj]
      refine ((hd.al o).kept hg ?_ (fun _ h => h.elim)).lower hb
      cases e : h'.dv.ownBlock with
      | none => exact .inl rfl
      | some b => exact .inr (fun e' => by have := hA' b (e'.symm ▸ rfl); have := hnew b e; omega)
  · intro e2
    rcases hl b e2 with e3 | e3
    · rcases hat j h' hh with ⟨hj, hh'⟩ | ⟨hj, rfl⟩
      · exact x.apart j h' b hh' hb1 e3
      · have := hA' b e3
        have := hnew b hb1
        omega
    · rcases hat j h' hh with ⟨hj, hh'⟩ | ⟨hj, rfl⟩
      · have := x.topd j h' b hh' hb1
        omega
      · have := hnew b hb1
        omega
  · rcases hat i h1 hh1 with ⟨hi, hh1'⟩ | ⟨hi, rfl⟩ <;> rcases hat j h2 hh2 with ⟨hj, hh2'⟩ | ⟨hj, rfl⟩
    · exact x.sep i j h1 h2 b hij hh1' hh2' hb1
    · intro e2
      have := x.topd i h1 b hh1' hb1
      have := hnew b e2
      omega
    · intro e2
      have := x.topd j h2 b hh2' e2
      have := hnew b hb1
      omega
    · omega
  · rcases hat j h' hh with ⟨hj, hh'⟩ | ⟨hj, rfl⟩
    · have := x.topd j h' b hh' hb1
      omega
    · have := hnew b hb1
      omega

/-- The list that is handed back lies in new memory, each section's bytes apart. -/
def CopiesX (w : World) (l : List Sec) (e : Ending) (w' : World) : Prop := Ext w w' ∧ ∃ A c H, e = .returned (.slice A l.length c) ∧ SecsX w' w.heap.size w'.heap.size 46 5 (.slice A l.length c) H l

set_option maxRecDepth 100000 in
set_option maxHeartbeats 2000000 in
theorem copies5x_any (w : World) (A : Option Addr) (n c : Nat) (l : List Sec) (hl : Sl secR w All (.slice A n c) l) (hn : n ≤ 16) (hb : ∀ s ∈ l, s.data.length ≤ 65536) :
    Calls Try.prog 42 #[.slice A n c] w (CopiesX w l) := by
  have hln := hl.len
  obtain ⟨hnc, hcm⟩ := hl.cap
  obtain ⟨i0, hi, hz0, hz1, hz2⟩ := info_parts info_secH
  have HS := hid hl; clear hl
  have HLN := hid hln; clear hln
  have HB := hid hb; clear hb
  have HI := hid hi; clear hi
  have HZ0 := hid hz0; clear hz0
  have HZ1 := hid hz1; clear hz1
  have HZ2 := hid hz2; clear hz2
  go_enter Try.func42, Try.ntmps42
  go_wp2
  go_loopw [3, 4] (fun v i wr => ∃ (k : Nat) (A' : Option Addr) (c' : Nat) (H : List Hd), k ≤ n ∧ i = .int .i64 k ∧ v = .slice A' k c' ∧ Hid (SecsX wr w.heap.size wr.heap.size 46 5 (.slice A' k c') H (l.take k)) ∧ Hid (Ext w wr)) (fun _ i _ => n - (intOf i).toNat)
  case atStart => exact ⟨0, none, 0, [], by omega, rfl, rfl, hid ⟨OwnS.nil, rfl, by simp, by simp, by simp, by simp, fun b h => (by cases h), by simp⟩, hid (Ext.refl _)⟩
  case round =>
    obtain ⟨k, A', c', H, hk, rfl, rfl, hown, hx⟩ := hrel
    by_cases h1 : k < n
    · obtain ⟨s, hs⟩ : ∃ s, l[k]? = some s := ⟨_, List.getElem?_eq_getElem (by have := HLN.out; omega)⟩
      obtain ⟨b, off, dA, dc, rfl, hd, hdl, hal, hnl, c0, c1, c2, c3, c4⟩ := HS.out.sec_at hs
      have c0 := hx.out.cell c0
      have c1 := hx.out.cell c1
      have c2 := hx.out.cell c2
      have c3 := hx.out.cell c3
      have c4 := hx.out.cell c4
      have hsb := HB.out s (List.mem_of_getElem? hs)
      have HSK := hid hs; clear hs
      have HD := hid hd; clear hd
      have hHl : H.length = k := by have := hown.out.len; rw [List.length_take] at this; have := HLN.out; omega
      have HHL := hid hHl; clear hHl
      go_wp2_with fail
      refine (copy5x_any w _ hx.out s dA dc HD.out hsb).mono ?_
      rintro e w1 ⟨dA1, dc1, rfl, hd1, hx1⟩
      have HD1 := hid hd1
      have HX1 := hid hx1
      have hown1 := hown.out.own.ext hx1
      have HO1 := hid hown1
      have hob := hown.out.own.block
      have HOB := hid hob
      have hhok : (⟨s.name, s.addr, dA1, s.data.length, dc1, s.wr, s.ex⟩ : Hd).addr < 4294967296 ∧ (⟨s.name, s.addr, dA1, s.data.length, dc1, s.wr, s.ex⟩ : Hd).name.size ≤ 9223372036854775807 := ⟨hal, hnl⟩
      have HHOK := hid hhok
      have HBS := hid (show w.heap.size ≤ w1.heap.size from (hx.out.trans hx1).size)
      clear hd1 hx1 hown1 hob hhok
      go_wp2_with (first
        | (at_builtin; refine wpList_app1l rfl (.tmp 11) (.tmp 17) 23 rfl w.heap.size 46 i0 _ 5 56 Try.underlying23 HI.out HZ0.out HZ1.out HZ2.out rfl hdrR rfl (.slice A' k c') H rfl HO1.out w1.heap.size rfl ⟨s.name, s.addr, dA1, s.data.length, dc1, s.wr, s.ex⟩ rfl ⟨rfl, HHOK.out⟩ (by have := HHL.out; omega) (by have := HHL.out; omega) HBS.out ?_; intro A2 c2' w2 hown2 hg2 hl2; rw [HHL.out] at hown2 hl2; have HO2 := hid hown2; have HG2 := hid hg2; have HL2 := hid hl2; rw [HHL.out]; clear hown2 hg2 hl2)
        | fail)
      first
        | go_roundw
        | refine ⟨?rel, ?measure⟩
      case rel => exact ⟨k + 1, A2, c2', _, by omega, by go_num, rfl, hid (by rw [take_snoc' HSK.out]; exact SecsX.push (h := ⟨s.name, s.addr, dA1, s.data.length, dc1, s.wr, s.ex⟩) hown.out HX1.out ⟨rfl, rfl, rfl, rfl, rfl⟩ HD1.out hx.out.size HO2.out HG2.out HL2.out), hid (((hx.out.trans HX1.out).alloc _).grown HG2.out (fun q hq => (HOB.out q hq).1))⟩
      case measure => simp [intOf]; omega
    · obtain rfl : n = k := by omega
      have ho := hown.out
      rw [List.take_of_length_le (by have := HLN.out; omega)] at ho
      have HO := hid ho
      clear ho
      go_wp2
      go_ret
      exact ⟨hx.out, A', c', H, by rw [← HLN.out]; rfl, by rw [← HLN.out]; exact HO.out⟩
end Go.Proofs.Ytnlofhbimfcejaa
