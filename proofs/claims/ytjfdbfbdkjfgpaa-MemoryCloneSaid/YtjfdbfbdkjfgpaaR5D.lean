/- The reference's walks over sections: Copy, Copies, Find. -/
import Derived.Test.YtjfdbfbdkjfgpaaR5A
import Derived.Test.YtjfdbfbdkjfgpaaClone8
namespace Go.Proofs.Ytjfdbfbdkjfgpaa
open Go.RowKit Go.Deco
set_option linter.unusedSimpArgs false
set_option linter.unusedVariables false

theorem ext_of_none {w w' : World} (h : w.grownBy w' none) : Ext w w' := (Ext.refl w).grown h (fun k hk => by cases hk)

def CopyPost (w : World) (s : Sec) (e : Ending) (w' : World) : Prop :=
  ∃ A c, e = .returned (.agg #[.string s.name, .int .u32 s.addr, .slice A s.data.length c, .bool s.wr, .bool s.ex]) ∧ Sl u8R w' (fun b => w.heap.size ≤ b) (.slice A s.data.length c) s.data ∧ Ext w w'

set_option maxRecDepth 100000 in
set_option maxHeartbeats 1000000 in
theorem copy5_any (wo w : World) (ho : Ext wo w) (s : Sec) (A : Option Addr) (c : Nat) (hd : Sl u8R wo All (.slice A s.data.length c) s.data) (hm : s.data.length ≤ 65536) :
    Calls Try.prog 58 #[.agg #[.string s.name, .int .u32 s.addr, .slice A s.data.length c, .bool s.wr, .bool s.ex]] w (CopyPost w s) := by
  obtain ⟨i0, hi, hz0, hz1, hz2⟩ := info_parts info_u8
  obtain ⟨D, hD⟩ : ∃ D, s.data = D := ⟨_, rfl⟩
  obtain ⟨n, hn⟩ : ∃ n, s.data.length = n := ⟨_, rfl⟩
  have hDn : D.length = n := by rw [← hD, hn]
  rw [hn] at hd hm ⊢
  rw [hD] at hd
  have HD := hid hd; clear hd
  have HDE := hid hD; clear hD
  have HN := hid hn; clear hn
  have HDN := hid hDn; clear hDn
  have HO := hid ho; clear ho
  have HI := hid hi; clear hi
  obtain ⟨W0, hW0⟩ : ∃ W0, ((w.alloc (Obj.cells #[.string s.name, .int .u32 s.addr, .slice A n c, .bool s.wr, .bool s.ex] 67)).alloc (Obj.cells #[.string ⟨#[]⟩, .int .u32 0, .slice none 0 0, .bool false, .bool false] 67)) = W0 := ⟨_, rfl⟩
  have hE : Ext w W0 := by rw [← hW0]; exact ((Ext.refl w).alloc _).alloc _
  have hsz : W0.heap.size = w.heap.size + 2 := by rw [← hW0]; simp
  have q0 : W0.cell? ⟨w.heap.size, 0, none⟩ = some (.string s.name) := by rw [← hW0]; simp
  have q1 : W0.cell? ⟨w.heap.size, 1, none⟩ = some (.int .u32 s.addr) := by rw [← hW0]; simp
  have q2 : W0.cell? ⟨w.heap.size, 2, none⟩ = some (.slice A n c) := by rw [← hW0]; simp
  have q3 : W0.cell? ⟨w.heap.size, 3, none⟩ = some (.bool s.wr) := by rw [← hW0]; simp
  have q4 : W0.cell? ⟨w.heap.size, 4, none⟩ = some (.bool s.ex) := by rw [← hW0]; simp
  have fq : ∀ j, W0.frozen? ⟨w.heap.size, j, none⟩ = false := by intro j; rw [← hW0]; simp
  have r0 : W0.cell? ⟨w.heap.size + 1, 0, none⟩ = some (.string ⟨#[]⟩) := by rw [← hW0]; simp
  have r1 : W0.cell? ⟨w.heap.size + 1, 1, none⟩ = some (.int .u32 0) := by rw [← hW0]; simp
  have r2 : W0.cell? ⟨w.heap.size + 1, 2, none⟩ = some (.slice none 0 0) := by rw [← hW0]; simp
  have r3 : W0.cell? ⟨w.heap.size + 1, 3, none⟩ = some (.bool false) := by rw [← hW0]; simp
  have r4 : W0.cell? ⟨w.heap.size + 1, 4, none⟩ = some (.bool false) := by rw [← hW0]; simp
  have fr : ∀ j, W0.frozen? ⟨w.heap.size + 1, j, none⟩ = false := by intro j; rw [← hW0]; simp
  have HE := hid hE
  have HSZ := hid hsz
  have HQ := hid (And.intro q0 (And.intro q1 (And.intro q2 (And.intro q3 (And.intro q4 fq)))))
  have HR := hid (And.intro r0 (And.intro r1 (And.intro r2 (And.intro r3 (And.intro r4 fr)))))
  clear hE hsz q0 q1 q3 q4 fq r0 r1 r2 r3 r4 fr
  go_enter Try.func58, Try.ntmps58
  go_wp2_with (first
    | (at_builtin; refine wpList_appS rfl (.tmp 4) (.tmp 6) 49 rfl (w.heap.size + 2) 5 i0 _ 1 1 Try.underlying49 HI.out hz0 hz1 hz2 rfl u8R rfl (.slice none 0 0) [] rfl (OwnS.nil (T := All)) A n c D (fun b => b < w.heap.size) rfl (((HD.out.ext HO.out).mono (fun b _ h => h.lt)).ext HE.out) (fun _ hb _ => ⟨trivial, own_nil⟩) (by simp; omega) (by simp; omega) (by have := HSZ.out; omega) ?_; intro A' c' w2 hown2 hg2 hloc; simp only [List.length_nil, Nat.zero_add, List.nil_append] at hown2; have HO2 := hid hown2; have HX2 := hid (ext_of_none hg2); clear hown2 hg2 hloc q2 hW0; simp only [List.length_nil, Nat.zero_add]; obtain ⟨q0, q1, q2, q3, q4, fq⟩ := HQ.out; obtain ⟨r0, r1, r2, r3, r4, fr⟩ := HR.out; have hs2 : w.heap.size + 1 < w2.heap.size := (by have := HX2.out.size; have := HSZ.out; omega); have q0 := HX2.out.cell q0; have q1 := HX2.out.cell q1; have q2 := HX2.out.cell q2; have q3 := HX2.out.cell q3; have q4 := HX2.out.cell q4; have r0 := HX2.out.cell r0; have r1 := HX2.out.cell r1; have r2 := HX2.out.cell r2; have r3 := HX2.out.cell r3; have r4 := HX2.out.cell r4; have f2 := (HX2.out.frozen (p := ⟨w.heap.size, 2, none⟩) (by have := HSZ.out; simp; omega)).trans (fq 2); have f0 := (HX2.out.frozen (p := ⟨w.heap.size + 1, 0, none⟩) (by have := HSZ.out; simp; omega)).trans (fr 0); have f1 := (HX2.out.frozen (p := ⟨w.heap.size + 1, 1, none⟩) (by have := HSZ.out; simp; omega)).trans (fr 1); have g2 := (HX2.out.frozen (p := ⟨w.heap.size + 1, 2, none⟩) (by have := HSZ.out; simp; omega)).trans (fr 2); have f3 := (HX2.out.frozen (p := ⟨w.heap.size + 1, 3, none⟩) (by have := HSZ.out; simp; omega)).trans (fr 3); have f4 := (HX2.out.frozen (p := ⟨w.heap.size + 1, 4, none⟩) (by have := HSZ.out; simp; omega)).trans (fr 4); clear fq fr)
    | fail)
  refine bodyPost_ret (v := .agg #[.string s.name, .int .u32 s.addr, .slice A' n c', .bool s.wr, .bool s.ex]) (by simp [results, Try.results58, go_sem, World.cell?_setCell_same, World.cell?_setCell_other, r0, r1, r2, r3, r4]) rfl ?_
  refine ⟨A', c', by rw [HN.out], ?_, ?_⟩
  · rw [HN.out, HDE.out]
    have hsl : Sl u8R w2 (fun b => w.heap.size + 2 ≤ b) (.slice A' n c') D := HO2.out.num_sl (fun k hk => hk)
    refine (hsl.keep fun b hb _ => ?_).mono (fun b hb _ => by omega)
    rw [Below.heap_setCell _ _ _ _ (by simp; omega), Below.heap_setCell _ _ _ _ (by simp; omega), Below.heap_setCell _ _ _ _ (by simp; omega), Below.heap_setCell _ _ _ _ (by simp; omega), Below.heap_setCell _ _ _ _ (by simp; omega), Below.heap_setCell _ _ _ _ (by simp; omega)]
  · exact ((((((HE.out.trans HX2.out).setCell (by simp) _).setCell (by simp) _).setCell (by simp) _).setCell (by simp) _).setCell (by simp) _).setCell (by simp) _

theorem info_sec : (Try.prog.info? 67).map (fun i => (i.zero, i.size, i.bytes)) = some (some (.agg #[.string ⟨#[]⟩, .int .u32 0, .slice none 0 0, .bool false, .bool false]), 5, 56) := by kernel_rfl

/-- The list that is handed back lies in new memory. -/
def CopiesPost (w : World) (l : List Sec) (e : Ending) (w' : World) : Prop := Ext w w' ∧ ∃ A c, e = .returned (.slice A l.length c) ∧ Sl secR w' (fun b => w.heap.size ≤ b) (.slice A l.length c) l

set_option maxRecDepth 100000 in
set_option maxHeartbeats 1000000 in
theorem copies5_any (w : World) (A : Option Addr) (n c : Nat) (l : List Sec) (hl : Sl secR w All (.slice A n c) l) (hn : n ≤ 16) (hb : ∀ s ∈ l, s.data.length ≤ 65536) :
    Calls Try.prog 36 #[.slice A n c] w (CopiesPost w l) := by
  have hln := hl.len
  obtain ⟨hnc, hcm⟩ := hl.cap
  obtain ⟨i0, hi, hz0, hz1, hz2⟩ := info_parts info_sec
  have HS := hid hl; clear hl
  have HLN := hid hln; clear hln
  have HB := hid hb; clear hb
  have HI := hid hi; clear hi
  have HZ0 := hid hz0; clear hz0
  have HZ1 := hid hz1; clear hz1
  have HZ2 := hid hz2; clear hz2
  go_enter Try.func36, Try.ntmps36
  go_wp2
  go_loopw [3, 4] (fun v i wr => ∃ (k : Nat) (A' : Option Addr) (c' : Nat), k ≤ n ∧ i = .int .i64 k ∧ v = .slice A' k c' ∧ Hid (OwnS secR wr w.heap.size 67 (fun b => w.heap.size ≤ b) (.slice A' k c') (l.take k)) ∧ Hid (Ext w wr)) (fun _ i _ => n - (intOf i).toNat)
  case atStart => exact ⟨0, none, 0, by omega, rfl, rfl, hid (by simpa using OwnS.nil), hid (Ext.refl _)⟩
  case round =>
    obtain ⟨k, A', c', hk, rfl, rfl, hown, hx⟩ := hrel
    by_cases h1 : k < n
    · obtain ⟨s, hs⟩ : ∃ s, l[k]? = some s := ⟨_, List.getElem?_eq_getElem (by have := HLN.out; omega)⟩
      obtain ⟨b, off, dA, dc, rfl, hd, hdl, hal, hnl, c0, c1, c2, c3, c4⟩ := HS.out.sec_at hs
      have c0 := hx.out.cell c0
      have c1 := hx.out.cell c1
      have c2 := hx.out.cell c2
      have c3 := hx.out.cell c3
      have c4 := hx.out.cell c4
      have hsb := HB.out s (List.mem_of_getElem? hs)
      have HSK := hid hs; clear hs
      have HD := hid hd; clear hd
      have hkl : (l.take k).length = k := by rw [List.length_take]; have := HLN.out; omega
      have HKL := hid hkl; clear hkl
      go_wp2_with fail
      refine (copy5_any w _ hx.out s dA dc HD.out hsb).mono ?_
      rintro e w1 ⟨dA1, dc1, rfl, hd1, hx1⟩
      have HD1 := hid hd1
      have HX1 := hid hx1
      have hown1 := hown.out.ext hx1
      have hob := hown.out.block
      have HOB := hid hob
      have HO1 := hid hown1
      clear hd1 hx1 hown1 hob
      go_wp2_with (first
        | (at_builtin; refine wpList_app1 rfl (.tmp 11) (.tmp 17) 22 rfl w.heap.size 67 i0 _ 5 56 Try.underlying22 HI.out HZ0.out HZ1.out HZ2.out rfl secR rfl (.slice A' k c') (l.take k) rfl HO1.out s rfl ⟨_, rfl, HD1.out.mono (fun b' hb' _ => ⟨Nat.le_trans hx.out.size hb', fun e => by have := HOB.out b' e.symm; omega⟩), hal, hnl⟩ (by have := HKL.out; omega) (by have := HKL.out; omega) (by exact (hx.out.trans HX1.out).size) ?_; intro A2 c2 w2 hown2 hg2; rw [HKL.out] at hown2; have HO2 := hid hown2; have HX2 := hid (((hx.out.trans HX1.out).alloc _).grown hg2 (fun k hk => (HOB.out _ hk).1)); clear hown2 hg2; rw [HKL.out])
        | fail)
      go_roundw
      case rel => exact ⟨k + 1, A2, c2, by omega, by go_num, rfl, hid (by rw [take_snoc' HSK.out]; exact HO2.out), HX2⟩
      case measure => simp [intOf]; omega
    · obtain rfl : n = k := by omega
      go_wp2
      go_ret
      have e1 : l.take n = l := List.take_of_length_le (by have := HLN.out; omega)
      have ho := hown.out
      rw [e1, HLN.out] at ho
      refine ⟨hx.out, A', c', by rw [← HLN.out]; rfl, ho.slT (fun b hb => hb) (fun k hk => (ho.block k hk).1)⟩

def IdxIs (w : World) (o : Option Nat) (e : Ending) (w' : World) : Prop := (match o with | none => e = .returned (.int .i64 (-1)) | some k => e = .returned (.int .i64 k)) ∧ Ext w w'
def findIx (l : List Sec) (a : Nat) : Option Nat := l.findIdx? (fun s => decide (s.addr ≤ a) && decide (a < secTo s))
theorem findIx_hit {l : List Sec} {a k : Nat} {s : Sec} (h : ∀ j, j < k → ∀ y, l[j]? = some y → (decide (y.addr ≤ a) && decide (a < secTo y)) = false) (hk : l[k]? = some s) (h1 : s.addr ≤ a) (h2 : a < secTo s) : findIx l a = some k := by
  obtain ⟨hlt, rfl⟩ := List.getElem?_eq_some_iff.1 hk
  rw [findIx, List.findIdx?_eq_some_iff_getElem]
  refine ⟨hlt, by simp [h1, h2], fun j hj => ?_⟩
  have := h j hj _ (List.getElem?_eq_getElem (by omega))
  simpa using this
theorem findIx_miss {l : List Sec} {a : Nat} (h : ∀ j, j < l.length → ∀ y, l[j]? = some y → (decide (y.addr ≤ a) && decide (a < secTo y)) = false) : findIx l a = none := by
  rw [findIx, List.findIdx?_eq_none_iff]
  intro x hx
  obtain ⟨k, hk, rfl⟩ := List.getElem_of_mem hx
  exact h k hk _ (List.getElem?_eq_getElem hk)

set_option maxRecDepth 100000 in
set_option maxHeartbeats 1000000 in
theorem find5_any (wo w : World) (ho : Ext wo w) (A : Option Addr) (n c : Nat) (l : List Sec) (hl : Sl secR wo All (.slice A n c) l) (hb : ∀ s ∈ l, s.data.length ≤ 65536) (a : Nat) (ha : a < 4294967296) :
    Calls Try.prog 59 #[.slice A n c, .int .u32 a] w (IdxIs w (findIx l a)) := by
  have hln := hl.len
  obtain ⟨hnc, hcm⟩ := hl.cap
  have HS := hid hl; clear hl
  have HLN := hid hln; clear hln
  have HB := hid hb; clear hb
  have HO := hid ho; clear ho
  go_enter Try.func59, Try.ntmps59
  go_wp2
  go_loopw [5] (fun i wr => ∃ k : Nat, k ≤ n ∧ i = .int .i64 k ∧ Hid (Ext w wr) ∧ Hid (∀ j, j < k → ∀ y, l[j]? = some y → (decide (y.addr ≤ a) && decide (a < secTo y)) = false)) (fun i _ => n - (intOf i).toNat)
  case atStart => exact ⟨0, by omega, rfl, hid (Ext.refl _), hid (by omega)⟩
  case round =>
    obtain ⟨k, hk, rfl, hx, hn⟩ := hrel
    by_cases h1 : k < n
    · obtain ⟨s, hs⟩ : ∃ s, l[k]? = some s := ⟨_, List.getElem?_eq_getElem (by have := HLN.out; omega)⟩
      obtain ⟨b, off, dA, dc, rfl, -, hdl, hal, hnl, c0, c1, c2, c3, c4⟩ := HS.out.sec_at hs
      have hww := HO.out.trans hx.out
      have c0 := hww.cell c0
      have c1 := hww.cell c1
      have c2 := hww.cell c2
      have c3 := hww.cell c3
      have c4 := hww.cell c4
      have hsb := HB.out s (List.mem_of_getElem? hs)
      have HSK := hid hs; clear hs hww
      have next : (decide (s.addr ≤ a) && decide (a < secTo s)) = false → Hid (∀ j, j < k + 1 → ∀ y, l[j]? = some y → (decide (y.addr ≤ a) && decide (a < secTo y)) = false) := fun h => hid (by
        intro j hj y hy
        rcases Nat.lt_or_ge j k with h2 | h2
        · exact hn.out j h2 y hy
        · obtain rfl : j = k := by omega
          have := HSK.out.symm.trans hy
          injection this with this
          rw [← this]; exact h)
      have NEXT := hid next; clear next
      by_cases h2 : s.addr ≤ a
      · obtain ⟨t, ht⟩ : ∃ t, secTo s = t := ⟨_, rfl⟩
        have HT := hid ht; clear ht
        go_wp2_with fail
        refine (end5_any _ s dA dc (by omega) hal).mono ?_
        rintro e w3 ⟨rfl, hx3⟩
        rw [HT.out]
        have HX3 := hid (hx.out.trans hx3); clear hx3
        by_cases h3 : a < t
        · go_wp2
          go_ret
          have e := findIx_hit hn.out HSK.out h2 (by rw [HT.out]; exact h3)
          refine ⟨?_, HX3.out⟩
          rw [e]
          rfl
        · go_wp2
          go_roundw
          case rel => exact ⟨k + 1, by omega, by go_num, HX3, NEXT.out (by rw [HT.out]; simp; omega)⟩
          case measure => simp [intOf]; omega
      · go_wp2
        go_roundw
        case rel => exact ⟨k + 1, by omega, by go_num, hx, NEXT.out (by simp; omega)⟩
        case measure => simp [intOf]; omega
    · go_wp2
      go_ret
      refine ⟨?_, hx.out⟩
      rw [findIx_miss (fun j hj => hn.out j (by have := HLN.out; omega))]
      rfl
end Go.Proofs.Ytjfdbfbdkjfgpaa
