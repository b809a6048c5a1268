/- decompilerref45: with, round. -/
import Derived.Test.YtcddmggefmfkkaaMnlB
import Derived.Test.YtcddmggefmfkkaaLast
namespace Go.Proofs.Ytcddmggefmfkkaa
open Go.RowKit Go.Deco
set_option linter.unusedSimpArgs false
set_option linter.unusedVariables false

set_option maxRecDepth 100000 in
set_option maxHeartbeats 2000000 in
theorem with_any (w : World) (S : Nat → Prop) (A : Option Addr) (n c : Nat) (l : List Nat) (hl : Sl u32R w S (.slice A n c) l) (hn : n ≤ 1000) (k y : Nat) (hk : k < n) (hy : y < 4294967296) :
    Calls Try.prog 51 #[.slice A n c, .int .i64 k, .int .u32 y] w fun e w' => Ext w w' ∧ ∃ A' c', e = .returned (.slice A' n c') ∧ OwnS u32R w' w.heap.size 36 All (.slice A' n c') (l.set k y) := by
  obtain ⟨i0, hi, hz0, hz1, hz2⟩ := info_parts info_w32
  have hln := hl.len
  have HI := hid hi
  have HZ0 := hid hz0
  have HZ1 := hid hz1
  have HZ2 := hid hz2
  have HL := hid (hl.mono (S' := fun b => b < w.heap.size) fun b _ h => h.lt)
  have HN := hid hln
  have hy0 : (0 : Int) ≤ (k : Int) := by omega
  have hkn : (k : Int) < (n : Int) := by omega
  obtain ⟨x, hx⟩ : ∃ x, l[k]? = some x := ⟨_, List.getElem?_eq_getElem (by omega)⟩
  have HX := hid hx
  clear hi hz0 hz1 hz2 hl hln hx
  go_enter Try.func51, Try.ntmps51
  go_wp2_with (first
    | (at_builtin; refine wpList_appS rfl (.tmp 8) (.tmp 9) 23 rfl w.heap.size 36 i0 _ 1 4 Try.underlying23 HI.out HZ0.out HZ1.out HZ2.out rfl u32R rfl _ [] rfl (OwnS.fresh0 (T := All) w (Nat.le_refl _)) A n c l (fun b => b < w.heap.size) rfl (HL.out.ext ((Ext.refl w).alloc _)) (fun _ hb _ => ⟨trivial, own_ne hb⟩) (by simp; omega) (by simp; omega) (by simp) ?_; intro A3 c3 w3 hown3 hg3 hloc; have HO3 : Hid (OwnS u32R w3 w.heap.size 36 All (.slice A3 n c3) l) := hid (by simpa using hown3); clear hown3; have HX3 := hid (((Ext.refl w).alloc _).grown hg3 (fun k hk => by rw [own_at hk]; simp)); clear hg3 hloc; simp only [List.length_nil, Nat.zero_add]; obtain ⟨g, hg, hg1, hg2⟩ := HO3.out.at0 (by omega); subst hg; have hcc := HO3.out.num_cell HX.out; have y0 := hcc.1; have y1 := hcc.2; clear hcc)
    | fail)
  go_ret
  exact ⟨HX3.out.setCell hg1 _, _, c3, rfl, HO3.out.num_set hy k⟩

/-- The minimizer's value in its box. -/
structure RM (b : Nat) (w0 wr : World) (A : Option Addr) (c : Nat) (M : List Nat) (k : Nat) : Prop where
  ext : Ext w0 wr
  x0 : wr.cell? ⟨b, 0, none⟩ = some (.slice A M.length c)
  x1 : wr.cell? ⟨b, 1, none⟩ = some (.int .i64 k)
  fx : ∀ i, wr.frozen? ⟨b, i, none⟩ = false
  base : w0.heap.size ≤ b
  sl : Sl u32R wr (fun d => d ≠ b ∧ d ≠ b + 1 + 1) (.slice A M.length c) M
  lt : ∀ x ∈ M, x < 4294967296
/-- What lies beside it. -/
structure RS (b : Nat) (q : Rl) (wr : World) : Prop where
  q0 : wr.cell? ⟨b + 1, 0, none⟩ = some (.int .u32 q.least)
  q1 : wr.cell? ⟨b + 1, 1, none⟩ = some (.int .i64 q.count)
  q2 : wr.cell? ⟨b + 1, 2, none⟩ = some (.bool q.pair)
  r0 : wr.cell? ⟨b + 1 + 1, 0, none⟩ = some (.slice none 0 0)
  r1 : wr.cell? ⟨b + 1 + 1, 1, none⟩ = some (.int .i64 0)
  fr : ∀ i, wr.frozen? ⟨b + 1 + 1, i, none⟩ = false
theorem RM.ext2 {b : Nat} {w0 wr w' : World} {A : Option Addr} {c : Nat} {M : List Nat} {k : Nat} (h : RM b w0 wr A c M k) (he : Ext wr w') : RM b w0 w' A c M k where
  ext := h.ext.trans he
  x0 := he.cell h.x0
  x1 := he.cell h.x1
  fx i := (he.frozen (p := ⟨b, i, none⟩) (by have := World.block_lt_of_cell? _ _ h.x0; exact this)).trans (h.fx i)
  base := h.base
  sl := h.sl.ext he
  lt := h.lt
theorem RS.ext2 {b : Nat} {q : Rl} {wr w' : World} (h : RS b q wr) (he : Ext wr w') : RS b q w' where
  q0 := he.cell h.q0
  q1 := he.cell h.q1
  q2 := he.cell h.q2
  r0 := he.cell h.r0
  r1 := he.cell h.r1
  fr i := (he.frozen (p := ⟨b + 1 + 1, i, none⟩) (by have := World.block_lt_of_cell? _ _ h.r0; exact this)).trans (h.fr i)
theorem RM.put {b : Nat} {w0 wr : World} {A A' : Option Addr} {c c' : Nat} {M M' : List Nat} {k : Nat} (h : RM b w0 wr A c M k) (k' : Nat) (hs : Sl u32R wr (fun d => d ≠ b ∧ d ≠ b + 1 + 1) (.slice A' M'.length c') M') :
    RM b w0 ((wr.setCell ⟨b, 0, none⟩ (.slice A' M'.length c')).setCell ⟨b, 1, none⟩ (.int .i64 k')) A' c' M' k' where
  ext := (h.ext.setCell h.base _).setCell h.base _
  x0 := (World.cell?_setCell_other _ _ _ _ (by simp)).trans (World.cell?_setCell_same' _ _ _ (by rw [h.x0]; rfl))
  x1 := World.cell?_setCell_same' _ _ _ (by rw [World.cell?_setCell_other _ _ _ _ (by simp), h.x1]; rfl)
  fx i := by rw [World.frozen?_setCell, World.frozen?_setCell]; exact h.fx i
  base := h.base
  sl := hs.keep fun d hd _ => by rw [Below.heap_setCell _ _ _ d hd.1, Below.heap_setCell _ _ _ d hd.1]
  lt := hs.num_lt
theorem RS.put {b : Nat} {q : Rl} {wr : World} (h : RS b q wr) (v v' : Value) : RS b q ((wr.setCell ⟨b, 0, none⟩ v).setCell ⟨b, 1, none⟩ v') where
  q0 := (World.cell?_setCell_other _ _ _ _ (by simp)).trans ((World.cell?_setCell_other _ _ _ _ (by simp)).trans h.q0)
  q1 := (World.cell?_setCell_other _ _ _ _ (by simp)).trans ((World.cell?_setCell_other _ _ _ _ (by simp)).trans h.q1)
  q2 := (World.cell?_setCell_other _ _ _ _ (by simp)).trans ((World.cell?_setCell_other _ _ _ _ (by simp)).trans h.q2)
  r0 := (World.cell?_setCell_other _ _ _ _ (by simp)).trans ((World.cell?_setCell_other _ _ _ _ (by simp)).trans h.r0)
  r1 := (World.cell?_setCell_other _ _ _ _ (by simp)).trans ((World.cell?_setCell_other _ _ _ _ (by simp)).trans h.r1)
  fr i := by rw [World.frozen?_setCell, World.frozen?_setCell]; exact h.fr i
theorem ext5 {w w' : World} {p0 p1 p2 p3 p4 : Addr} {u0 u1 u2 u3 u4 : Value} (h : w.cell? p0 = some u0 ∧ w.cell? p1 = some u1 ∧ w.cell? p2 = some u2 ∧ w.cell? p3 = some u3 ∧ w.cell? p4 = some u4) (he : Ext w w') :
    w'.cell? p0 = some u0 ∧ w'.cell? p1 = some u1 ∧ w'.cell? p2 = some u2 ∧ w'.cell? p3 = some u3 ∧ w'.cell? p4 = some u4 :=
  ⟨he.cell h.1, he.cell h.2.1, he.cell h.2.2.1, he.cell h.2.2.2.1, he.cell h.2.2.2.2⟩
/-- Which of two slices a step hands back. -/
theorem pick_sl (r : Bool) (A' : Option Addr) (n' c' : Nat) (A : Option Addr) (n c : Nat) : ∃ VA vn vc, (if r then Value.slice A' n' c' else .slice A n c) = .slice VA vn vc ∧ (r = true → VA = A' ∧ vn = n' ∧ vc = c') ∧ (r = false → VA = A ∧ vn = n ∧ vc = c) := by
  cases r with
  | false => exact ⟨A, n, c, rfl, fun h => (by cases h), fun _ => ⟨rfl, rfl, rfl⟩⟩
  | true => exact ⟨A', n', c', rfl, fun _ => ⟨rfl, rfl, rfl⟩, fun h => (by cases h)⟩
theorem extAlloc {a w : World} (h : Ext a w) (o : Obj) : ∃ wA sz, w.alloc o = wA ∧ w.heap.size = sz ∧ Ext w wA ∧ a.heap.size ≤ sz ∧ wA.heap[sz]? = some o := ⟨_, _, rfl, rfl, (Ext.refl w).alloc o, h.size, by show (w.heap.push o)[w.heap.size]? = some o; simp⟩
theorem freshX {a w : World} (h : Ext a w) : OwnS u32R (w.alloc (.cells #[] 36)) a.heap.size 36 All (.slice (some ⟨w.heap.size, 0, none⟩) 0 0) ([] : List Nat) := OwnS.fresh0 w h.size
/-- The new value's box, not yet written. -/
structure ZB (lo a : Nat) (w : World) : Prop where
  obj : w.heap[a]? = some (.cells #[.slice none 0 0, .int .i64 0] 76)
  ge : lo ≤ a
theorem ZB.lt {lo a : Nat} {w : World} (h : ZB lo a w) : a < w.heap.size := (Array.getElem?_eq_some_iff.1 h.obj).1
theorem ZB.ext {lo a : Nat} {w w' : World} (h : ZB lo a w) (he : Ext w w') : ZB lo a w' := ⟨he.heapAt h.obj, h.ge⟩
theorem ZB.gr {lo a : Nat} {w w' : World} {row : Option Nat} (h : ZB lo a w) (hg : w.grownBy w' row) (hne : some a ≠ row) : ZB lo a w' := ⟨(hg.block a h.lt hne).trans h.obj, h.ge⟩
theorem ZB.c0 {lo a : Nat} {w : World} (h : ZB lo a w) : w.cell? ⟨a, 0, none⟩ = some (.slice none 0 0) := by simp [World.cell?, h.obj]
theorem ZB.c1 {lo a : Nat} {w : World} (h : ZB lo a w) : w.cell? ⟨a, 1, none⟩ = some (.int .i64 0) := by simp [World.cell?, h.obj]
theorem ZB.fr {lo a : Nat} {w : World} (h : ZB lo a w) (i : Nat) : w.frozen? ⟨a, i, none⟩ = false := by simp [World.frozen?, h.obj]
theorem ZB.ne {lo a base : Nat} {w : World} {T : Nat → Prop} {v : Value} {l : List Nat} (h : ZB lo a w) (ho : OwnS u32R w base 36 T v l) : some a ≠ v.ownBlock := by
  obtain ⟨xs, ho, _⟩ := ho
  rcases ho.2 with ⟨rfl, _⟩ | ⟨g, cap, cur, rfl, _, hb, _⟩
  · simp [Value.ownBlock]
  · intro e
    have : a = g := by simpa [Value.ownBlock] using e
    subst this
    have h2 := h.obj
    rw [hb] at h2
    injection h2 with h2
    injection h2 with _ h3 _
    exact absurd h3 (by decide)
theorem putZ {a w : World} {lo aZ base : Nat} {v : Value} {l : List Nat} (h : Ext a w) (hz : ZB lo aZ w) (hlo : a.heap.size ≤ lo) (ho : OwnS u32R w base 36 All v l) (u0 u1 : Value) :
    ∃ W, (w.setCell ⟨aZ, 0, none⟩ u0).setCell ⟨aZ, 1, none⟩ u1 = W ∧ Ext a W ∧ W.cell? ⟨aZ, 0, none⟩ = some u0 ∧ W.cell? ⟨aZ, 1, none⟩ = some u1 ∧ OwnS u32R W base 36 (fun b => b ≠ aZ) v l := by
  have hb : a.heap.size ≤ aZ := Nat.le_trans hlo hz.ge
  have hne := hz.ne ho
  refine ⟨_, rfl, (h.setCell hb _).setCell hb _, ?_, ?_, ?_⟩
  · exact (World.cell?_setCell_other _ _ _ _ (by simp)).trans (World.cell?_setCell_same' _ _ _ (by rw [hz.c0]; rfl))
  · exact World.cell?_setCell_same' _ _ _ (by rw [World.cell?_setCell_other _ _ _ _ (by simp), hz.c1]; rfl)
  · obtain ⟨xs, ho, hc⟩ := ho
    have h2 : OwnS u32R w base 36 (fun b => b ≠ aZ) v l := ⟨xs, ho, chunks_num.2 (chunks_num.1 hc)⟩
    exact (h2.set_far (p := ⟨aZ, 0, none⟩) (fun e => hne e.symm) (fun b hb => hb)).set_far (p := ⟨aZ, 1, none⟩) (fun e => hne e.symm) (fun b hb => hb)
def boxK (b : Nat) (w : World) : Nat := match w.cell? ⟨b, 1, none⟩ with
  | some (.int _ z) => z.toNat
  | _ => 0
theorem boxK_of {b k : Nat} {w : World} (h : w.cell? ⟨b, 1, none⟩ = some (.int .i64 (k : Nat))) : boxK b w = k := by simp [boxK, h]
/-- A round's result: the list, the calls made. -/
def RoundIs (w : World) (R : List Nat) (k : Nat) (e : Ending) (w' : World) : Prop :=
  Ext w w' ∧ ∃ A c, e = .returned (.agg #[.slice A R.length c, .int .i64 k]) ∧ Sl u32R w' All (.slice A R.length c) R

theorem ext6 {w w' : World} {p0 p1 p2 p3 p4 p5 : Addr} {u0 u1 u2 u3 u4 u5 : Value} (h : w.cell? p0 = some u0 ∧ w.cell? p1 = some u1 ∧ w.cell? p2 = some u2 ∧ w.cell? p3 = some u3 ∧ w.cell? p4 = some u4 ∧ w.cell? p5 = some u5) (he : Ext w w') :
    w'.cell? p0 = some u0 ∧ w'.cell? p1 = some u1 ∧ w'.cell? p2 = some u2 ∧ w'.cell? p3 = some u3 ∧ w'.cell? p4 = some u4 ∧ w'.cell? p5 = some u5 :=
  ⟨he.cell h.1, he.cell h.2.1, he.cell h.2.2.1, he.cell h.2.2.2.1, he.cell h.2.2.2.2.1, he.cell h.2.2.2.2.2⟩
/-- A step, calls left or not. -/
theorem rtry_gen (w : World) (q : Rl) (A A' : Option Addr) (n c n' c' k : Nat) (hk : k ≤ 1000) (X : List Nat) (hX : Sl u32R w All (.slice A' n' c') X) :
    ∃ (VA : Option Addr) (vn vc k2 : Nat) (r : Bool), (k = 1000 → VA = A ∧ vn = n ∧ vc = c ∧ k2 = 1000 ∧ r = false) ∧ (k < 1000 → k2 = k + 1 ∧ failsB q X = r ∧ (r = true → VA = A' ∧ vn = n' ∧ vc = c') ∧ (r = false → VA = A ∧ vn = n ∧ vc = c)) ∧
      Calls Try.prog 50 #[.agg #[.slice A n c, .int .i64 k], .agg #[.int .u32 q.least, .int .i64 q.count, .bool q.pair], .slice A' n' c'] w (RTry w (.slice VA vn vc) k2 r) := by
  rcases Nat.lt_or_ge k 1000 with h | h
  · obtain ⟨r, hr⟩ : ∃ r, failsB q X = r := ⟨_, rfl⟩
    obtain ⟨VA, vn, vc, hV, hV1, hV2⟩ := pick_sl r A' n' c' A n c
    have hc := rtry_in w q A A' n c n' c' k h X hX r hr
    rw [hV] at hc
    exact ⟨VA, vn, vc, k + 1, r, fun e => by omega, fun _ => ⟨rfl, hr, hV1, hV2⟩, hc⟩
  · obtain rfl : k = 1000 := by omega
    exact ⟨A, n, c, 1000, false, fun _ => ⟨rfl, rfl, rfl, rfl, rfl⟩, fun h => by omega, rtry_out w q A n c _ 1000 (by omega) (by omega)⟩
set_option maxRecDepth 100000 in
set_option maxHeartbeats 8000000 in
theorem round_any (w : World) (q : Rl) (A : Option Addr) (n c : Nat) (L : List Nat) (hl : Sl u32R w All (.slice A n c) L) (hn : n ≤ 1000) (k : Nat) (hk : k ≤ 1000) :
    Calls Try.prog 42 #[.agg #[.slice A n c, .int .i64 k], .agg #[.int .u32 q.least, .int .i64 q.count, .bool q.pair]] w (RoundIs w (roundM (failsB q) L (1000 - k)).1 (1000 - (roundM (failsB q) L (1000 - k)).2)) := by
  obtain ⟨P, hP⟩ : ∃ P, failsB q = P := ⟨_, rfl⟩
  rw [hP]
  have HP := hid hP
  obtain ⟨T, hT⟩ : ∃ T, roundM P L (1000 - k) = T := ⟨_, rfl⟩
  rw [hT]
  have HT := hid hT
  have hln := hl.len
  subst hln
  obtain ⟨W0, hW0⟩ : ∃ W0, ((w.alloc (.cells #[.slice A L.length c, .int .i64 k] 76)).alloc (.cells #[.int .u32 q.least, .int .i64 q.count, .bool q.pair] 43)).alloc (.cells #[.slice none 0 0, .int .i64 0] 76) = W0 := ⟨_, rfl⟩
  have hE0 : Ext w W0 := by rw [← hW0]; exact (((Ext.refl w).alloc _).alloc _).alloc _
  have HM0 : Hid (RM w.heap.size w W0 A c L k) := hid {
    ext := hE0
    x0 := by rw [← hW0]; simp [go_sem]
    x1 := by rw [← hW0]; simp [go_sem]
    fx := fun i => by rw [← hW0]; simp [go_sem]
    base := Nat.le_refl _
    sl := (hl.mono (S' := fun d => d ≠ w.heap.size ∧ d ≠ w.heap.size + 1 + 1) (fun b _ h => by have := h.lt; exact ⟨by omega, by omega⟩)).ext hE0
    lt := hl.num_lt }
  have HS0 : Hid (RS w.heap.size q W0) := hid {
    q0 := by rw [← hW0]; simp [go_sem]
    q1 := by rw [← hW0]; simp [go_sem]
    q2 := by rw [← hW0]; simp [go_sem]
    r0 := by rw [← hW0]; simp [go_sem]
    r1 := by rw [← hW0]; simp [go_sem]
    fr := fun i => by rw [← hW0]; simp [go_sem] }
  obtain ⟨i0, hi, hz0, hz1, hz2⟩ := info_parts info_w32
  have HI := hid hi
  have HZ0 := hid hz0
  have HZ1 := hid hz1
  have HZ2 := hid hz2
  clear hi hz0 hz1 hz2 hl hE0 hP hT
  go_enter Try.func42, Try.ntmps42
  go_wp2_with fail
  clear hW0
  obtain ⟨b, hb⟩ : ∃ b, w.heap.size = b := ⟨_, rfl⟩
  rw [hb] at HM0 HS0 ⊢
  clear hb
  go_loopw [5] (fun i wr => ∃ (j : Nat) (A : Option Addr) (c : Nat) (M : List Nat) (cl : Nat), i = .int .i64 j ∧ j ≤ 1000 ∧ M.length ≤ 1000 ∧ cl ≤ 1000 ∧ Hid (RM b w wr A c M cl) ∧ Hid (RS b q wr) ∧ Hid (delM P M (1000 - cl) j = delM P L (1000 - k) 0)) (fun _ wr => 1000 - boxK b wr)
  case atStart => exact ⟨0, A, c, L, k, rfl, by omega, hn, hk, HM0, HS0, hid rfl⟩
  case round =>
    obtain ⟨j, A1, c1, M, cl, rfl, hj, hM, hcl, HM, HS, HD⟩ := hrel
    have x0 := HM.out.x0
    have x1 := HM.out.x1
    by_cases hkk : j < M.length ∧ cl < 1000
    · obtain ⟨hjM, hcl0⟩ := hkk
      have hcap := HM.out.sl.cap
      obtain ⟨g1, o1, hA1⟩ := HM.out.sl.at0 (by omega)
      subst hA1
      have hs2 := HM.out.sl.all.take (k := j) (by omega)
      have hs3 := Sl.from_num HM.out.sl.all (k := j + 1) (by omega)
      obtain ⟨A3, hA3⟩ : ∃ A3, (if c1 = j + 1 then (some ⟨g1, o1, none⟩ : Option Addr) else some ⟨g1, o1 + (j + 1), none⟩) = A3 := ⟨_, rfl⟩
      rw [hA3] at hs3
      have hj0 : 0 ≤ (j : Int) + 1 := by omega
      have hj1 : (j : Int) + 1 ≤ (M.length : Int) := by omega
      have hj2 : ((j : Int) + 1).toNat = j + 1 := by omega
      have hjc : j ≤ c1 := by have := hcap.1; omega
      have hw : IntKind.i64.wrap ((j : Int) + 1) = (j : Int) + 1 := IntWalk.i64_in _ (by omega)
      have hKL : (M.take j).length = j := by rw [List.length_take]; omega
      obtain ⟨E, hE⟩ : ∃ E, M.eraseIdx j = E := ⟨_, rfl⟩
      have hEe : M.take j ++ M.drop (j + 1) = E := by rw [← hE, List.eraseIdx_eq_take_drop_succ]
      have hEl : j + (M.length - (j + 1)) = E.length := by rw [← hE, List.length_eraseIdx_of_lt hjM]; omega
      obtain ⟨r, hr⟩ : ∃ r, P E = r := ⟨_, rfl⟩
      have q0 := HS.out.q0
      have q1 := HS.out.q1
      have q2 := HS.out.q2
      have HKL := hid hKL
      have HE := hid hE
      have HEE := hid hEe
      have HEL := hid hEl
      have HR := hid hr
      have HS2 := hid hs2
      have HS3 := hid hs3
      have HC5 := hid (And.intro x0 (And.intro x1 (And.intro q0 (And.intro q1 q2))))
      have hEle : E.length ≤ 1000 := by omega
      obtain ⟨hcap1, hcap2⟩ := hcap
      clear hKL hE hEe hEl hr hs2 hs3
      go_wp2_with fail
      have HXR0 := hid ((Ext.refl wr).drew)
      refine wp_region_held_drew (S := (fun w' => w'.cell? ⟨b, 0, none⟩ = some (.slice (some ⟨g1, o1, none⟩) M.length c1) ∧ w'.cell? ⟨b, 1, none⟩ = some (.int .i64 cl) ∧ w'.cell? ⟨b + 1, 0, none⟩ = some (.int .u32 q.least) ∧ w'.cell? ⟨b + 1, 1, none⟩ = some (.int .i64 q.count) ∧ w'.cell? ⟨b + 1, 2, none⟩ = some (.bool q.pair))) (by kernel_rfl) ⟨x0, x1, q0, q1, q2⟩ (fun hSR0 => ?_)
      refine wpAnyH_takeL (i := 0) (v := ?Rv0x1) rfl (by kernel_rfl) (by kernel_rfl) (by kernel_rfl) (fun _ _ _ h => h) (Or.inl ⟨by rfl, ?Ry0x1⟩) (by assumption) ?Rr0x1
      case Ry0x1 => first | (intro w hSw; (try dsimp only at hSw); go_simp; done) | (intro w hSw; (try dsimp only at hSw); go_simp; with_reducible rfl)
      case' Rr0x1 => try simp only [Act.put, List.setIfInBounds_toArray, List.set_cons_zero, List.set_cons_succ]
      refine wpAnyH_takeL (i := 1) (v := ?Rv1x2) rfl (by kernel_rfl) (by kernel_rfl) (by kernel_rfl) (fun _ _ _ h => h) (Or.inl ⟨by rfl, ?Ry1x2⟩) (by assumption) ?Rr1x2
      case Ry1x2 => first | (intro w hSw; (try dsimp only at hSw); go_simp; done) | (intro w hSw; (try dsimp only at hSw); go_simp; with_reducible rfl)
      case' Rr1x2 => try simp only [Act.put, List.setIfInBounds_toArray, List.set_cons_zero, List.set_cons_succ]
      refine wpAnyH_takeL (i := 3) (v := ?Rv3x3) rfl (by kernel_rfl) (by kernel_rfl) (by kernel_rfl) (fun _ _ _ h => h) (Or.inl ⟨by rfl, ?Ry3x3⟩) (by assumption) ?Rr3x3
      case Ry3x3 => first | (intro w hSw; (try dsimp only at hSw); go_simp; done) | (intro w hSw; (try dsimp only at hSw); go_simp; with_reducible rfl)
      case' Rr3x3 => try simp only [Act.put, List.setIfInBounds_toArray, List.set_cons_zero, List.set_cons_succ]
      refine wpAnyH_takeL (i := 4) (v := ?Rv4x4) rfl (by kernel_rfl) (by kernel_rfl) (by kernel_rfl) (fun _ _ _ h => h) (Or.inl ⟨by rfl, ?Ry4x4⟩) (by assumption) ?Rr4x4
      case Ry4x4 => first | (intro w hSw; (try dsimp only at hSw); go_simp; done) | (intro w hSw; (try dsimp only at hSw); go_simp; with_reducible rfl)
      case' Rr4x4 => try simp only [Act.put, List.setIfInBounds_toArray, List.set_cons_zero, List.set_cons_succ]
      refine wpAnyH_takeL (i := 5) (v := ?Rv5x5) rfl (by kernel_rfl) (by kernel_rfl) (by kernel_rfl) (fun _ _ _ h => h) (Or.inl ⟨by rfl, ?Ry5x5⟩) (by assumption) ?Rr5x5
      case Ry5x5 => first | (intro w hSw; (try dsimp only at hSw); go_simp; done) | (intro w hSw; (try dsimp only at hSw); go_simp; with_reducible rfl)
      case' Rr5x5 => try simp only [Act.put, List.setIfInBounds_toArray, List.set_cons_zero, List.set_cons_succ]
      refine wpAnyH_takeL (i := 6) (v := ?Rv6x6) rfl (by kernel_rfl) (by kernel_rfl) (by kernel_rfl) (fun _ _ _ h => h) (Or.inl ⟨by rfl, ?Ry6x6⟩) (by assumption) ?Rr6x6
      case Ry6x6 => first | (intro w hSw; (try dsimp only at hSw); go_simp; done) | (intro w hSw; (try dsimp only at hSw); go_simp; with_reducible rfl)
      case' Rr6x6 => try simp only [Act.put, List.setIfInBounds_toArray, List.set_cons_zero, List.set_cons_succ]
      refine wpAnyH_takeL (i := 8) (v := ?Rv8x7) rfl (by kernel_rfl) (by kernel_rfl) (by kernel_rfl) (fun _ _ _ h => h) (Or.inl ⟨by rfl, ?Ry8x7⟩) (by assumption) ?Rr8x7
      case Ry8x7 => first | (intro w hSw; (try dsimp only at hSw); go_simp; done) | (intro w hSw; (try dsimp only at hSw); go_simp; with_reducible rfl)
      case' Rr8x7 => try simp only [Act.put, List.setIfInBounds_toArray, List.set_cons_zero, List.set_cons_succ]
      refine wpAnyH_takeL (i := 9) (v := ?Rv9x8) rfl (by kernel_rfl) (by kernel_rfl) (by kernel_rfl) (fun _ _ _ h => h) (Or.inl ⟨by rfl, ?Ry9x8⟩) (by assumption) ?Rr9x8
      case Ry9x8 => first | (intro w hSw; (try dsimp only at hSw); go_simp; done) | (intro w hSw; (try dsimp only at hSw); go_simp; with_reducible rfl)
      case' Rr9x8 => try simp only [Act.put, List.setIfInBounds_toArray, List.set_cons_zero, List.set_cons_succ]
      refine wpAnyH_takeL (i := 10) (v := ?Rv10x9) rfl (by kernel_rfl) (by kernel_rfl) (by kernel_rfl) (fun _ _ _ h => h) (Or.inl ⟨by rfl, ?Ry10x9⟩) (by assumption) ?Rr10x9
      case Ry10x9 => first | (intro w hSw; (try dsimp only at hSw); go_simp; done) | (intro w hSw; (try dsimp only at hSw); go_simp; with_reducible rfl)
      case' Rr10x9 => try simp only [Act.put, List.setIfInBounds_toArray, List.set_cons_zero, List.set_cons_succ]
      refine wpAnyH_takeL (i := 11) (v := ?Rv11x10) rfl (by kernel_rfl) (by kernel_rfl) (by kernel_rfl) (fun _ _ _ h => h) (Or.inl ⟨by rfl, ?Ry11x10⟩) (by assumption) ?Rr11x10
      case Ry11x10 => first | (intro w hSw; (try dsimp only at hSw); go_simp; done) | (intro w hSw; (try dsimp only at hSw); go_simp; with_reducible rfl)
      case' Rr11x10 => try simp only [Act.put, List.setIfInBounds_toArray, List.set_cons_zero, List.set_cons_succ]
      refine wpAnyH_takeL (i := 12) (v := ?Rv12x11) rfl (by kernel_rfl) (by kernel_rfl) (by kernel_rfl) (fun _ _ _ h => h) (Or.inl ⟨by rfl, ?Ry12x11⟩) (by assumption) ?Rr12x11
      case Ry12x11 => first | (intro w hSw; (try dsimp only at hSw); go_simp; done) | (intro w hSw; (try dsimp only at hSw); go_simp; with_reducible rfl)
      case' Rr12x11 => try simp only [Act.put, List.setIfInBounds_toArray, List.set_cons_zero, List.set_cons_succ]
      refine wpAnyH_ready (rs := [2, 18]) (by kernel_rfl) (by simp) ?_
      refine (AllReadyH.consL rfl (fun K hK => ?Rb2x12) (AllReadyH.consL rfl (fun K hK => ?Rb18x12) AllReadyH.nil))
      case' Rb2x12 =>
        go_simp
        have hOF := freshX HXR0.out
        obtain ⟨wA, sA, hA, -, hER1, -, -⟩ := extAlloc HXR0.out (.cells #[] 36)
        rw [hA] at hOF
        refine Eq.mpr (congrArg (K _) hA) ?_
        have HOF := hid hOF
        clear hOF hA
        have HXR1 := hid (HXR0.out.trans hER1)
        clear hER1
        refine hK.out _ _ (ext5 HC5.out HXR1.out) (fun hSR1 => ?_)
        clear hK K
        try simp only [Act.put, List.setIfInBounds_toArray, List.set_cons_zero, List.set_cons_succ]
        refine wpAnyH_ready (rs := [7, 18]) (by kernel_rfl) (by simp) ?_
        refine (AllReadyH.consL rfl (fun K hK => ?Rb7x13) (AllReadyH.consL rfl (fun K hK => ?Rb18x13) AllReadyH.nil))
        case' Rb7x13 =>
          refine step_appS rfl (.tmp 24) (.tmp 28) 23 rfl wr.heap.size 36 i0 _ 1 4 Try.underlying23 HI.out HZ0.out HZ1.out HZ2.out rfl u32R rfl _ [] rfl HOF.out (some ⟨g1, o1, none⟩) j c1 (M.take j) (fun d => d < wr.heap.size) rfl ((HS2.out.mono (fun b _ h => h.lt)).ext HXR1.out) (fun d hd _ => ⟨trivial, fun e => by have := HOF.out.block d e.symm; omega⟩) (by simp; omega) (by simp; omega) (by exact HXR1.out.size) ?_
          intro A4 c4 w4 hown4 hg4
          have HO4 : Hid (OwnS u32R w4 wr.heap.size 36 All (.slice A4 j c4) (M.take j)) := hid (by simpa using hown4)
          have HXR2 := hid (HXR1.out.grown hg4 (fun k hk => (HOF.out.block _ hk).1))
          try have HZB := hid (HZB.out.gr hg4 (HZB.out.ne HOF.out))
          clear hown4 hg4
          simp only [List.length_nil, Nat.zero_add]
          refine hK.out _ _ (ext5 HC5.out HXR2.out) (fun hSR2 => ?_)
          clear hK K
          try simp only [Act.put, List.setIfInBounds_toArray, List.set_cons_zero, List.set_cons_succ]
          refine wpAnyH_ready (rs := [13, 18]) (by kernel_rfl) (by simp) ?_
          refine (AllReadyH.consL rfl (fun K hK => ?Rb13x14) (AllReadyH.consL rfl (fun K hK => ?Rb18x14) AllReadyH.nil))
          case' Rb13x14 =>
            refine step_appS rfl (.tmp 29) (.tmp 34) 23 rfl wr.heap.size 36 i0 _ 1 4 Try.underlying23 HI.out HZ0.out HZ1.out HZ2.out rfl u32R rfl (.slice A4 j c4) (M.take j) rfl HO4.out A3 (M.length - (j + 1)) (c1 - (j + 1)) (M.drop (j + 1)) (fun d => d < wr.heap.size) rfl ((HS3.out.mono (fun b _ h => h.lt)).ext HXR2.out) (fun d hd _ => ⟨trivial, fun e => by have := HO4.out.block d e.symm; omega⟩) (by have := HKL.out; omega) (by have := HKL.out; omega) (by exact HXR2.out.size) ?_
            intro A5 c5 w5 hown5 hg5
            have HXR3 := hid (HXR2.out.grown hg5 (fun k hk => (HO4.out.block _ hk).1))
            try have HZB := hid (HZB.out.gr hg5 (HZB.out.ne HO4.out))
            rw [HKL.out, HEL.out, HEE.out] at hown5
            have HO5 := hid hown5
            clear hown5 hg5
            rw [HKL.out, HEL.out]
            refine hK.out _ _ (ext5 HC5.out HXR3.out) (fun hSR3 => ?_)
            clear hK K
            try simp only [Act.put, List.setIfInBounds_toArray, List.set_cons_zero, List.set_cons_succ]
            refine wpAnyH_ready (rs := [14, 18]) (by kernel_rfl) (by simp) ?_
            refine (AllReadyH.consL rfl (fun K hK => ?Rb14x15) (AllReadyH.consL rfl (fun K hK => ?Rb18x15) AllReadyH.nil))
            case' Rb14x15 =>
              go_simp
              go_at_call 50
              refine (rtry_in _ q (some ⟨g1, o1, none⟩) A5 M.length c1 E.length c5 cl hcl0 E HO5.out.sl r (by rw [HP.out]; exact HR.out)).mono ?_
              rintro e w6 ⟨hER4, rfl⟩
              obtain ⟨VA, vn, vc, hV, hV1, hV2⟩ := pick_sl r A5 E.length c5 (some ⟨g1, o1, none⟩) M.length c1
              rw [hV]
              have HV1 := hid hV1
              have HV2 := hid hV2
              clear hV hV1 hV2
              have HXR4 := hid (HXR3.out.trans hER4)
              have HO5 := hid (HO5.out.ext hER4)
              clear hER4
              refine hK.out _ _ (ext5 HC5.out HXR4.out) (fun hSR4 => ?_)
              clear hK K
              try simp only [Act.put, List.setIfInBounds_toArray, List.set_cons_zero, List.set_cons_succ]
              refine wpAnyH_takeL (i := 15) (v := ?Rv15x16) rfl (by kernel_rfl) (by kernel_rfl) (by kernel_rfl) (fun _ _ _ h => h) (Or.inl ⟨by rfl, ?Ry15x16⟩) (by assumption) ?Rr15x16
              case Ry15x16 => first | (intro w hSw; (try dsimp only at hSw); go_simp; done) | (intro w hSw; (try dsimp only at hSw); go_simp; with_reducible rfl)
              case' Rr15x16 => try simp only [Act.put, List.setIfInBounds_toArray, List.set_cons_zero, List.set_cons_succ]
              refine wpAnyH_takeL (i := 16) (v := ?Rv16x17) rfl (by kernel_rfl) (by kernel_rfl) (by kernel_rfl) (fun _ _ _ h => h) (Or.inl ⟨by rfl, ?Ry16x17⟩) (by assumption) ?Rr16x17
              case Ry16x17 => first | (intro w hSw; (try dsimp only at hSw); go_simp; done) | (intro w hSw; (try dsimp only at hSw); go_simp; with_reducible rfl)
              case' Rr16x17 => try simp only [Act.put, List.setIfInBounds_toArray, List.set_cons_zero, List.set_cons_succ]
              refine wpAnyH_takeL (i := 17) (v := ?Rv17x18) rfl (by kernel_rfl) (by kernel_rfl) (by kernel_rfl) (fun _ _ _ h => h) (Or.inl ⟨by rfl, ?Ry17x18⟩) (by assumption) ?Rr17x18
              case Ry17x18 => first | (intro w hSw; (try dsimp only at hSw); go_simp; done) | (intro w hSw; (try dsimp only at hSw); go_simp; with_reducible rfl)
              case' Rr17x18 => try simp only [Act.put, List.setIfInBounds_toArray, List.set_cons_zero, List.set_cons_succ]
              refine wpAnyH_ready (rs := [18]) (by kernel_rfl) (by simp) ?_
              refine (AllReadyH.consL rfl (fun K hK => ?Rb18x19) AllReadyH.nil)
              case' Rb18x19 =>
                go_simp
                obtain ⟨wZ, aZ, hA, hsz, hER5, hge, hob⟩ := extAlloc HXR4.out (.cells #[.slice none 0 0, .int .i64 0] 76)
                refine Eq.mpr (congrArg (K _) hA) ?_
                first | rw [hsz] | (have hq : wr.heap.size = aZ := hsz; rw [hq]; clear hq) | skip
                have HZB := hid (show ZB wr.heap.size aZ wZ from ⟨hob, hge⟩)
                clear hA hsz hge hob
                have HXR5 := hid (HXR4.out.trans hER5)
                have HO5 := hid (HO5.out.ext hER5)
                clear hER5
                refine hK.out _ _ (ext5 HC5.out HXR5.out) (fun hSR5 => ?_)
                clear hK K
                try simp only [Act.put, List.setIfInBounds_toArray, List.set_cons_zero, List.set_cons_succ]
                refine wpAnyH_ready (rs := [19]) (by kernel_rfl) (by simp) ?_
                refine (AllReadyH.consL rfl (fun K hK => ?Rb19x20) AllReadyH.nil)
                case' Rb19x20 =>
                  have z0 := HZB.out.c0
                  have z1 := HZB.out.c1
                  have zf0 := HZB.out.fr 0
                  have zf1 := HZB.out.fr 1
                  go_simp
                  refine hK.out _ _ (ext5 HC5.out ((HXR5.out.setCell HZB.out.ge _).setCell HZB.out.ge _)) (fun hSR6 => ?_)
                  clear hK K
                  try simp only [Act.put, List.setIfInBounds_toArray, List.set_cons_zero, List.set_cons_succ]
                  refine wpAnyH_takeL (i := 20) (v := ?Rv20x21) rfl (by kernel_rfl) (by kernel_rfl) (by kernel_rfl) (fun _ _ _ h => h) (Or.inl ⟨by rfl, ?Ry20x21⟩) (by assumption) ?Rr20x21
                  case Ry20x21 => first | (intro w hSw; (try dsimp only at hSw); go_simp; done) | (intro w hSw; (try dsimp only at hSw); go_simp; with_reducible rfl)
                  case' Rr20x21 => try simp only [Act.put, List.setIfInBounds_toArray, List.set_cons_zero, List.set_cons_succ]
                  refine wpAnyH_done (by kernel_rfl) ?_ _
                  obtain ⟨W7, hW7, hE7, t0, t1, ho7⟩ := putZ HXR5.out HZB.out (Nat.le_refl _) HO5.out (.slice VA vn vc) (.int .i64 ((cl : Int) + 1))
                  rw [hW7]
                  have hge := HZB.out.ge
                  have hbr : b < wr.heap.size := by have := World.block_lt_of_cell? _ _ HM.out.x0; exact this
                  have hbZ : b < aZ := by omega
                  have HM7 := hid (HM.out.ext2 hE7)
                  have HS7 := hid (HS.out.ext2 hE7)
                  have hbr2 : b + 1 + 1 < wr.heap.size := by have := World.block_lt_of_cell? _ _ HS.out.r0; exact this
                  have HSL := hid (ho7.num_sl (S := fun d => d ≠ b ∧ d ≠ b + 1 + 1) (fun d hd => ⟨by omega, by omega⟩))
                  have y0 := HM7.out.x0
                  have y1 := HM7.out.x1
                  have fx0 := HM7.out.fx 0
                  have fx1 := HM7.out.fx 1
                  clear hW7 hE7 ho7 hge x0 x1 q0 q1 q2
                  have hcl1 : 1000 - cl = (1000 - (cl + 1)) + 1 := by omega
                  have HCL := hid hcl1
                  clear hcl1
                  cases r with
                  | true =>
                    obtain ⟨rfl, rfl, rfl⟩ := HV1.out rfl
                    have HP7 := hid (HM7.out.put (cl + 1) HSL.out)
                    have HQ7 := hid (HS7.out.put (.slice VA E.length vc) (.int .i64 ((cl + 1 : Nat) : Int)))
                    go_wp2
                    first
                      | go_roundw
                      | refine ⟨?rel, ?measure⟩
                    case rel => exact ⟨j, VA, vc, E, cl + 1, rfl, hj, hEle, by omega, HP7, HQ7, hid (by rw [← HD.out, HCL.out, delM_yes hjM (by rw [HE.out]; exact HR.out), HE.out])⟩
                    case measure => rw [boxK_of HM.out.x1]; exact Nat.lt_of_le_of_lt (Nat.le_of_eq (congrArg (fun z => 1000 - z) (boxK_of HP7.out.x1))) (by omega)
                  | false =>
                    obtain ⟨rfl, rfl, rfl⟩ := HV2.out rfl
                    have HP7 := hid (HM7.out.put (cl + 1) HM7.out.sl)
                    have HQ7 := hid (HS7.out.put (.slice (some ⟨g1, o1, none⟩) M.length vc) (.int .i64 ((cl + 1 : Nat) : Int)))
                    go_wp2
                    first
                      | go_roundw
                      | refine ⟨?rel, ?measure⟩
                    case rel => exact ⟨j + 1, _, vc, M, cl + 1, by go_num, by omega, hM, by omega, HP7, HQ7, hid (by rw [← HD.out, HCL.out, delM_no hjM (by rw [HE.out]; exact HR.out)])⟩
                    case measure => rw [boxK_of HM.out.x1]; exact Nat.lt_of_le_of_lt (Nat.le_of_eq (congrArg (fun z => 1000 - z) (boxK_of HP7.out.x1))) (by omega)
            case' Rb18x15 =>
              go_simp
              obtain ⟨wZ, aZ, hA, hsz, hER4, hge, hob⟩ := extAlloc HXR3.out (.cells #[.slice none 0 0, .int .i64 0] 76)
              refine Eq.mpr (congrArg (K _) hA) ?_
              first | rw [hsz] | (have hq : wr.heap.size = aZ := hsz; rw [hq]; clear hq) | skip
              have HZB := hid (show ZB wr.heap.size aZ wZ from ⟨hob, hge⟩)
              clear hA hsz hge hob
              have HXR4 := hid (HXR3.out.trans hER4)
              have HO5 := hid (HO5.out.ext hER4)
              clear hER4
              refine hK.out _ _ (ext5 HC5.out HXR4.out) (fun hSR4 => ?_)
              clear hK K
              try simp only [Act.put, List.setIfInBounds_toArray, List.set_cons_zero, List.set_cons_succ]
              refine wpAnyH_ready (rs := [14]) (by kernel_rfl) (by simp) ?_
              refine (AllReadyH.consL rfl (fun K hK => ?Rb14x22) AllReadyH.nil)
              case' Rb14x22 =>
                go_simp
                go_at_call 50
                refine (rtry_in _ q (some ⟨g1, o1, none⟩) A5 M.length c1 E.length c5 cl hcl0 E HO5.out.sl r (by rw [HP.out]; exact HR.out)).mono ?_
                rintro e w6 ⟨hER5, rfl⟩
                obtain ⟨VA, vn, vc, hV, hV1, hV2⟩ := pick_sl r A5 E.length c5 (some ⟨g1, o1, none⟩) M.length c1
                rw [hV]
                have HV1 := hid hV1
                have HV2 := hid hV2
                clear hV hV1 hV2
                have HXR5 := hid (HXR4.out.trans hER5)
                have HO5 := hid (HO5.out.ext hER5)
                have HZB := hid (HZB.out.ext hER5)
                clear hER5
                refine hK.out _ _ (ext5 HC5.out HXR5.out) (fun hSR5 => ?_)
                clear hK K
                try simp only [Act.put, List.setIfInBounds_toArray, List.set_cons_zero, List.set_cons_succ]
                refine wpAnyH_takeL (i := 15) (v := ?Rv15x23) rfl (by kernel_rfl) (by kernel_rfl) (by kernel_rfl) (fun _ _ _ h => h) (Or.inl ⟨by rfl, ?Ry15x23⟩) (by assumption) ?Rr15x23
                case Ry15x23 => first | (intro w hSw; (try dsimp only at hSw); go_simp; done) | (intro w hSw; (try dsimp only at hSw); go_simp; with_reducible rfl)
                case' Rr15x23 => try simp only [Act.put, List.setIfInBounds_toArray, List.set_cons_zero, List.set_cons_succ]
                refine wpAnyH_takeL (i := 16) (v := ?Rv16x24) rfl (by kernel_rfl) (by kernel_rfl) (by kernel_rfl) (fun _ _ _ h => h) (Or.inl ⟨by rfl, ?Ry16x24⟩) (by assumption) ?Rr16x24
                case Ry16x24 => first | (intro w hSw; (try dsimp only at hSw); go_simp; done) | (intro w hSw; (try dsimp only at hSw); go_simp; with_reducible rfl)
                case' Rr16x24 => try simp only [Act.put, List.setIfInBounds_toArray, List.set_cons_zero, List.set_cons_succ]
                refine wpAnyH_takeL (i := 17) (v := ?Rv17x25) rfl (by kernel_rfl) (by kernel_rfl) (by kernel_rfl) (fun _ _ _ h => h) (Or.inl ⟨by rfl, ?Ry17x25⟩) (by assumption) ?Rr17x25
                case Ry17x25 => first | (intro w hSw; (try dsimp only at hSw); go_simp; done) | (intro w hSw; (try dsimp only at hSw); go_simp; with_reducible rfl)
                case' Rr17x25 => try simp only [Act.put, List.setIfInBounds_toArray, List.set_cons_zero, List.set_cons_succ]
                refine wpAnyH_ready (rs := [19]) (by kernel_rfl) (by simp) ?_
                refine (AllReadyH.consL rfl (fun K hK => ?Rb19x26) AllReadyH.nil)
                case' Rb19x26 =>
                  have z0 := HZB.out.c0
                  have z1 := HZB.out.c1
                  have zf0 := HZB.out.fr 0
                  have zf1 := HZB.out.fr 1
                  go_simp
                  refine hK.out _ _ (ext5 HC5.out ((HXR5.out.setCell HZB.out.ge _).setCell HZB.out.ge _)) (fun hSR6 => ?_)
                  clear hK K
                  try simp only [Act.put, List.setIfInBounds_toArray, List.set_cons_zero, List.set_cons_succ]
                  refine wpAnyH_takeL (i := 20) (v := ?Rv20x27) rfl (by kernel_rfl) (by kernel_rfl) (by kernel_rfl) (fun _ _ _ h => h) (Or.inl ⟨by rfl, ?Ry20x27⟩) (by assumption) ?Rr20x27
                  case Ry20x27 => first | (intro w hSw; (try dsimp only at hSw); go_simp; done) | (intro w hSw; (try dsimp only at hSw); go_simp; with_reducible rfl)
                  case' Rr20x27 => try simp only [Act.put, List.setIfInBounds_toArray, List.set_cons_zero, List.set_cons_succ]
                  refine wpAnyH_done (by kernel_rfl) ?_ _
                  obtain ⟨W7, hW7, hE7, t0, t1, ho7⟩ := putZ HXR5.out HZB.out (Nat.le_refl _) HO5.out (.slice VA vn vc) (.int .i64 ((cl : Int) + 1))
                  rw [hW7]
                  have hge := HZB.out.ge
                  have hbr : b < wr.heap.size := by have := World.block_lt_of_cell? _ _ HM.out.x0; exact this
                  have hbZ : b < aZ := by omega
                  have HM7 := hid (HM.out.ext2 hE7)
                  have HS7 := hid (HS.out.ext2 hE7)
                  have hbr2 : b + 1 + 1 < wr.heap.size := by have := World.block_lt_of_cell? _ _ HS.out.r0; exact this
                  have HSL := hid (ho7.num_sl (S := fun d => d ≠ b ∧ d ≠ b + 1 + 1) (fun d hd => ⟨by omega, by omega⟩))
                  have y0 := HM7.out.x0
                  have y1 := HM7.out.x1
                  have fx0 := HM7.out.fx 0
                  have fx1 := HM7.out.fx 1
                  clear hW7 hE7 ho7 hge x0 x1 q0 q1 q2
                  have hcl1 : 1000 - cl = (1000 - (cl + 1)) + 1 := by omega
                  have HCL := hid hcl1
                  clear hcl1
                  cases r with
                  | true =>
                    obtain ⟨rfl, rfl, rfl⟩ := HV1.out rfl
                    have HP7 := hid (HM7.out.put (cl + 1) HSL.out)
                    have HQ7 := hid (HS7.out.put (.slice VA E.length vc) (.int .i64 ((cl + 1 : Nat) : Int)))
                    go_wp2
                    first
                      | go_roundw
                      | refine ⟨?rel, ?measure⟩
                    case rel => exact ⟨j, VA, vc, E, cl + 1, rfl, hj, hEle, by omega, HP7, HQ7, hid (by rw [← HD.out, HCL.out, delM_yes hjM (by rw [HE.out]; exact HR.out), HE.out])⟩
                    case measure => rw [boxK_of HM.out.x1]; exact Nat.lt_of_le_of_lt (Nat.le_of_eq (congrArg (fun z => 1000 - z) (boxK_of HP7.out.x1))) (by omega)
                  | false =>
                    obtain ⟨rfl, rfl, rfl⟩ := HV2.out rfl
                    have HP7 := hid (HM7.out.put (cl + 1) HM7.out.sl)
                    have HQ7 := hid (HS7.out.put (.slice (some ⟨g1, o1, none⟩) M.length vc) (.int .i64 ((cl + 1 : Nat) : Int)))
                    go_wp2
                    first
                      | go_roundw
                      | refine ⟨?rel, ?measure⟩
                    case rel => exact ⟨j + 1, _, vc, M, cl + 1, by go_num, by omega, hM, by omega, HP7, HQ7, hid (by rw [← HD.out, HCL.out, delM_no hjM (by rw [HE.out]; exact HR.out)])⟩
                    case measure => rw [boxK_of HM.out.x1]; exact Nat.lt_of_le_of_lt (Nat.le_of_eq (congrArg (fun z => 1000 - z) (boxK_of HP7.out.x1))) (by omega)
          case' Rb18x14 =>
            go_simp
            obtain ⟨wZ, aZ, hA, hsz, hER3, hge, hob⟩ := extAlloc HXR2.out (.cells #[.slice none 0 0, .int .i64 0] 76)
            refine Eq.mpr (congrArg (K _) hA) ?_
            first | rw [hsz] | (have hq : wr.heap.size = aZ := hsz; rw [hq]; clear hq) | skip
            have HZB := hid (show ZB wr.heap.size aZ wZ from ⟨hob, hge⟩)
            clear hA hsz hge hob
            have HXR3 := hid (HXR2.out.trans hER3)
            have HO4 := hid (HO4.out.ext hER3)
            clear hER3
            refine hK.out _ _ (ext5 HC5.out HXR3.out) (fun hSR3 => ?_)
            clear hK K
            try simp only [Act.put, List.setIfInBounds_toArray, List.set_cons_zero, List.set_cons_succ]
            refine wpAnyH_ready (rs := [13]) (by kernel_rfl) (by simp) ?_
            refine (AllReadyH.consL rfl (fun K hK => ?Rb13x28) AllReadyH.nil)
            case' Rb13x28 =>
              refine step_appS rfl (.tmp 29) (.tmp 34) 23 rfl wr.heap.size 36 i0 _ 1 4 Try.underlying23 HI.out HZ0.out HZ1.out HZ2.out rfl u32R rfl (.slice A4 j c4) (M.take j) rfl HO4.out A3 (M.length - (j + 1)) (c1 - (j + 1)) (M.drop (j + 1)) (fun d => d < wr.heap.size) rfl ((HS3.out.mono (fun b _ h => h.lt)).ext HXR3.out) (fun d hd _ => ⟨trivial, fun e => by have := HO4.out.block d e.symm; omega⟩) (by have := HKL.out; omega) (by have := HKL.out; omega) (by exact HXR3.out.size) ?_
              intro A5 c5 w5 hown5 hg5
              have HXR4 := hid (HXR3.out.grown hg5 (fun k hk => (HO4.out.block _ hk).1))
              try have HZB := hid (HZB.out.gr hg5 (HZB.out.ne HO4.out))
              rw [HKL.out, HEL.out, HEE.out] at hown5
              have HO5 := hid hown5
              clear hown5 hg5
              rw [HKL.out, HEL.out]
              refine hK.out _ _ (ext5 HC5.out HXR4.out) (fun hSR4 => ?_)
              clear hK K
              try simp only [Act.put, List.setIfInBounds_toArray, List.set_cons_zero, List.set_cons_succ]
              refine wpAnyH_ready (rs := [14]) (by kernel_rfl) (by simp) ?_
              refine (AllReadyH.consL rfl (fun K hK => ?Rb14x29) AllReadyH.nil)
              case' Rb14x29 =>
                go_simp
                go_at_call 50
                refine (rtry_in _ q (some ⟨g1, o1, none⟩) A5 M.length c1 E.length c5 cl hcl0 E HO5.out.sl r (by rw [HP.out]; exact HR.out)).mono ?_
                rintro e w6 ⟨hER5, rfl⟩
                obtain ⟨VA, vn, vc, hV, hV1, hV2⟩ := pick_sl r A5 E.length c5 (some ⟨g1, o1, none⟩) M.length c1
                rw [hV]
                have HV1 := hid hV1
                have HV2 := hid hV2
                clear hV hV1 hV2
                have HXR5 := hid (HXR4.out.trans hER5)
                have HZB := hid (HZB.out.ext hER5)
                have HO5 := hid (HO5.out.ext hER5)
                clear hER5
                refine hK.out _ _ (ext5 HC5.out HXR5.out) (fun hSR5 => ?_)
                clear hK K
                try simp only [Act.put, List.setIfInBounds_toArray, List.set_cons_zero, List.set_cons_succ]
                refine wpAnyH_takeL (i := 15) (v := ?Rv15x30) rfl (by kernel_rfl) (by kernel_rfl) (by kernel_rfl) (fun _ _ _ h => h) (Or.inl ⟨by rfl, ?Ry15x30⟩) (by assumption) ?Rr15x30
                case Ry15x30 => first | (intro w hSw; (try dsimp only at hSw); go_simp; done) | (intro w hSw; (try dsimp only at hSw); go_simp; with_reducible rfl)
                case' Rr15x30 => try simp only [Act.put, List.setIfInBounds_toArray, List.set_cons_zero, List.set_cons_succ]
                refine wpAnyH_takeL (i := 16) (v := ?Rv16x31) rfl (by kernel_rfl) (by kernel_rfl) (by kernel_rfl) (fun _ _ _ h => h) (Or.inl ⟨by rfl, ?Ry16x31⟩) (by assumption) ?Rr16x31
                case Ry16x31 => first | (intro w hSw; (try dsimp only at hSw); go_simp; done) | (intro w hSw; (try dsimp only at hSw); go_simp; with_reducible rfl)
                case' Rr16x31 => try simp only [Act.put, List.setIfInBounds_toArray, List.set_cons_zero, List.set_cons_succ]
                refine wpAnyH_takeL (i := 17) (v := ?Rv17x32) rfl (by kernel_rfl) (by kernel_rfl) (by kernel_rfl) (fun _ _ _ h => h) (Or.inl ⟨by rfl, ?Ry17x32⟩) (by assumption) ?Rr17x32
                case Ry17x32 => first | (intro w hSw; (try dsimp only at hSw); go_simp; done) | (intro w hSw; (try dsimp only at hSw); go_simp; with_reducible rfl)
                case' Rr17x32 => try simp only [Act.put, List.setIfInBounds_toArray, List.set_cons_zero, List.set_cons_succ]
                refine wpAnyH_ready (rs := [19]) (by kernel_rfl) (by simp) ?_
                refine (AllReadyH.consL rfl (fun K hK => ?Rb19x33) AllReadyH.nil)
                case' Rb19x33 =>
                  have z0 := HZB.out.c0
                  have z1 := HZB.out.c1
                  have zf0 := HZB.out.fr 0
                  have zf1 := HZB.out.fr 1
                  go_simp
                  refine hK.out _ _ (ext5 HC5.out ((HXR5.out.setCell HZB.out.ge _).setCell HZB.out.ge _)) (fun hSR6 => ?_)
                  clear hK K
                  try simp only [Act.put, List.setIfInBounds_toArray, List.set_cons_zero, List.set_cons_succ]
                  refine wpAnyH_takeL (i := 20) (v := ?Rv20x34) rfl (by kernel_rfl) (by kernel_rfl) (by kernel_rfl) (fun _ _ _ h => h) (Or.inl ⟨by rfl, ?Ry20x34⟩) (by assumption) ?Rr20x34
                  case Ry20x34 => first | (intro w hSw; (try dsimp only at hSw); go_simp; done) | (intro w hSw; (try dsimp only at hSw); go_simp; with_reducible rfl)
                  case' Rr20x34 => try simp only [Act.put, List.setIfInBounds_toArray, List.set_cons_zero, List.set_cons_succ]
                  refine wpAnyH_done (by kernel_rfl) ?_ _
                  obtain ⟨W7, hW7, hE7, t0, t1, ho7⟩ := putZ HXR5.out HZB.out (Nat.le_refl _) HO5.out (.slice VA vn vc) (.int .i64 ((cl : Int) + 1))
                  rw [hW7]
                  have hge := HZB.out.ge
                  have hbr : b < wr.heap.size := by have := World.block_lt_of_cell? _ _ HM.out.x0; exact this
                  have hbZ : b < aZ := by omega
                  have HM7 := hid (HM.out.ext2 hE7)
                  have HS7 := hid (HS.out.ext2 hE7)
                  have hbr2 : b + 1 + 1 < wr.heap.size := by have := World.block_lt_of_cell? _ _ HS.out.r0; exact this
                  have HSL := hid (ho7.num_sl (S := fun d => d ≠ b ∧ d ≠ b + 1 + 1) (fun d hd => ⟨by omega, by omega⟩))
                  have y0 := HM7.out.x0
                  have y1 := HM7.out.x1
                  have fx0 := HM7.out.fx 0
                  have fx1 := HM7.out.fx 1
                  clear hW7 hE7 ho7 hge x0 x1 q0 q1 q2
                  have hcl1 : 1000 - cl = (1000 - (cl + 1)) + 1 := by omega
                  have HCL := hid hcl1
                  clear hcl1
                  cases r with
                  | true =>
                    obtain ⟨rfl, rfl, rfl⟩ := HV1.out rfl
                    have HP7 := hid (HM7.out.put (cl + 1) HSL.out)
                    have HQ7 := hid (HS7.out.put (.slice VA E.length vc) (.int .i64 ((cl + 1 : Nat) : Int)))
                    go_wp2
                    first
                      | go_roundw
                      | refine ⟨?rel, ?measure⟩
                    case rel => exact ⟨j, VA, vc, E, cl + 1, rfl, hj, hEle, by omega, HP7, HQ7, hid (by rw [← HD.out, HCL.out, delM_yes hjM (by rw [HE.out]; exact HR.out), HE.out])⟩
                    case measure => rw [boxK_of HM.out.x1]; exact Nat.lt_of_le_of_lt (Nat.le_of_eq (congrArg (fun z => 1000 - z) (boxK_of HP7.out.x1))) (by omega)
                  | false =>
                    obtain ⟨rfl, rfl, rfl⟩ := HV2.out rfl
                    have HP7 := hid (HM7.out.put (cl + 1) HM7.out.sl)
                    have HQ7 := hid (HS7.out.put (.slice (some ⟨g1, o1, none⟩) M.length vc) (.int .i64 ((cl + 1 : Nat) : Int)))
                    go_wp2
                    first
                      | go_roundw
                      | refine ⟨?rel, ?measure⟩
                    case rel => exact ⟨j + 1, _, vc, M, cl + 1, by go_num, by omega, hM, by omega, HP7, HQ7, hid (by rw [← HD.out, HCL.out, delM_no hjM (by rw [HE.out]; exact HR.out)])⟩
                    case measure => rw [boxK_of HM.out.x1]; exact Nat.lt_of_le_of_lt (Nat.le_of_eq (congrArg (fun z => 1000 - z) (boxK_of HP7.out.x1))) (by omega)
        case' Rb18x13 =>
          go_simp
          obtain ⟨wZ, aZ, hA, hsz, hER2, hge, hob⟩ := extAlloc HXR1.out (.cells #[.slice none 0 0, .int .i64 0] 76)
          refine Eq.mpr (congrArg (K _) hA) ?_
          first | rw [hsz] | (have hq : wr.heap.size = aZ := hsz; rw [hq]; clear hq) | skip
          have HZB := hid (show ZB wr.heap.size aZ wZ from ⟨hob, hge⟩)
          clear hA hsz hge hob
          have HXR2 := hid (HXR1.out.trans hER2)
          have HOF := hid (HOF.out.ext hER2)
          clear hER2
          refine hK.out _ _ (ext5 HC5.out HXR2.out) (fun hSR2 => ?_)
          clear hK K
          try simp only [Act.put, List.setIfInBounds_toArray, List.set_cons_zero, List.set_cons_succ]
          refine wpAnyH_ready (rs := [7]) (by kernel_rfl) (by simp) ?_
          refine (AllReadyH.consL rfl (fun K hK => ?Rb7x35) AllReadyH.nil)
          case' Rb7x35 =>
            refine step_appS rfl (.tmp 24) (.tmp 28) 23 rfl wr.heap.size 36 i0 _ 1 4 Try.underlying23 HI.out HZ0.out HZ1.out HZ2.out rfl u32R rfl _ [] rfl HOF.out (some ⟨g1, o1, none⟩) j c1 (M.take j) (fun d => d < wr.heap.size) rfl ((HS2.out.mono (fun b _ h => h.lt)).ext HXR2.out) (fun d hd _ => ⟨trivial, fun e => by have := HOF.out.block d e.symm; omega⟩) (by simp; omega) (by simp; omega) (by exact HXR2.out.size) ?_
            intro A4 c4 w4 hown4 hg4
            have HO4 : Hid (OwnS u32R w4 wr.heap.size 36 All (.slice A4 j c4) (M.take j)) := hid (by simpa using hown4)
            have HXR3 := hid (HXR2.out.grown hg4 (fun k hk => (HOF.out.block _ hk).1))
            try have HZB := hid (HZB.out.gr hg4 (HZB.out.ne HOF.out))
            clear hown4 hg4
            simp only [List.length_nil, Nat.zero_add]
            refine hK.out _ _ (ext5 HC5.out HXR3.out) (fun hSR3 => ?_)
            clear hK K
            try simp only [Act.put, List.setIfInBounds_toArray, List.set_cons_zero, List.set_cons_succ]
            refine wpAnyH_ready (rs := [13]) (by kernel_rfl) (by simp) ?_
            refine (AllReadyH.consL rfl (fun K hK => ?Rb13x36) AllReadyH.nil)
            case' Rb13x36 =>
              refine step_appS rfl (.tmp 29) (.tmp 34) 23 rfl wr.heap.size 36 i0 _ 1 4 Try.underlying23 HI.out HZ0.out HZ1.out HZ2.out rfl u32R rfl (.slice A4 j c4) (M.take j) rfl HO4.out A3 (M.length - (j + 1)) (c1 - (j + 1)) (M.drop (j + 1)) (fun d => d < wr.heap.size) rfl ((HS3.out.mono (fun b _ h => h.lt)).ext HXR3.out) (fun d hd _ => ⟨trivial, fun e => by have := HO4.out.block d e.symm; omega⟩) (by have := HKL.out; omega) (by have := HKL.out; omega) (by exact HXR3.out.size) ?_
              intro A5 c5 w5 hown5 hg5
              have HXR4 := hid (HXR3.out.grown hg5 (fun k hk => (HO4.out.block _ hk).1))
              try have HZB := hid (HZB.out.gr hg5 (HZB.out.ne HO4.out))
              rw [HKL.out, HEL.out, HEE.out] at hown5
              have HO5 := hid hown5
              clear hown5 hg5
              rw [HKL.out, HEL.out]
              refine hK.out _ _ (ext5 HC5.out HXR4.out) (fun hSR4 => ?_)
              clear hK K
              try simp only [Act.put, List.setIfInBounds_toArray, List.set_cons_zero, List.set_cons_succ]
              refine wpAnyH_ready (rs := [14]) (by kernel_rfl) (by simp) ?_
              refine (AllReadyH.consL rfl (fun K hK => ?Rb14x37) AllReadyH.nil)
              case' Rb14x37 =>
                go_simp
                go_at_call 50
                refine (rtry_in _ q (some ⟨g1, o1, none⟩) A5 M.length c1 E.length c5 cl hcl0 E HO5.out.sl r (by rw [HP.out]; exact HR.out)).mono ?_
                rintro e w6 ⟨hER5, rfl⟩
                obtain ⟨VA, vn, vc, hV, hV1, hV2⟩ := pick_sl r A5 E.length c5 (some ⟨g1, o1, none⟩) M.length c1
                rw [hV]
                have HV1 := hid hV1
                have HV2 := hid hV2
                clear hV hV1 hV2
                have HXR5 := hid (HXR4.out.trans hER5)
                have HZB := hid (HZB.out.ext hER5)
                have HO5 := hid (HO5.out.ext hER5)
                clear hER5
                refine hK.out _ _ (ext5 HC5.out HXR5.out) (fun hSR5 => ?_)
                clear hK K
                try simp only [Act.put, List.setIfInBounds_toArray, List.set_cons_zero, List.set_cons_succ]
                refine wpAnyH_takeL (i := 15) (v := ?Rv15x38) rfl (by kernel_rfl) (by kernel_rfl) (by kernel_rfl) (fun _ _ _ h => h) (Or.inl ⟨by rfl, ?Ry15x38⟩) (by assumption) ?Rr15x38
                case Ry15x38 => first | (intro w hSw; (try dsimp only at hSw); go_simp; done) | (intro w hSw; (try dsimp only at hSw); go_simp; with_reducible rfl)
                case' Rr15x38 => try simp only [Act.put, List.setIfInBounds_toArray, List.set_cons_zero, List.set_cons_succ]
                refine wpAnyH_takeL (i := 16) (v := ?Rv16x39) rfl (by kernel_rfl) (by kernel_rfl) (by kernel_rfl) (fun _ _ _ h => h) (Or.inl ⟨by rfl, ?Ry16x39⟩) (by assumption) ?Rr16x39
                case Ry16x39 => first | (intro w hSw; (try dsimp only at hSw); go_simp; done) | (intro w hSw; (try dsimp only at hSw); go_simp; with_reducible rfl)
                case' Rr16x39 => try simp only [Act.put, List.setIfInBounds_toArray, List.set_cons_zero, List.set_cons_succ]
                refine wpAnyH_takeL (i := 17) (v := ?Rv17x40) rfl (by kernel_rfl) (by kernel_rfl) (by kernel_rfl) (fun _ _ _ h => h) (Or.inl ⟨by rfl, ?Ry17x40⟩) (by assumption) ?Rr17x40
                case Ry17x40 => first | (intro w hSw; (try dsimp only at hSw); go_simp; done) | (intro w hSw; (try dsimp only at hSw); go_simp; with_reducible rfl)
                case' Rr17x40 => try simp only [Act.put, List.setIfInBounds_toArray, List.set_cons_zero, List.set_cons_succ]
                refine wpAnyH_ready (rs := [19]) (by kernel_rfl) (by simp) ?_
                refine (AllReadyH.consL rfl (fun K hK => ?Rb19x41) AllReadyH.nil)
                case' Rb19x41 =>
                  have z0 := HZB.out.c0
                  have z1 := HZB.out.c1
                  have zf0 := HZB.out.fr 0
                  have zf1 := HZB.out.fr 1
                  go_simp
                  refine hK.out _ _ (ext5 HC5.out ((HXR5.out.setCell HZB.out.ge _).setCell HZB.out.ge _)) (fun hSR6 => ?_)
                  clear hK K
                  try simp only [Act.put, List.setIfInBounds_toArray, List.set_cons_zero, List.set_cons_succ]
                  refine wpAnyH_takeL (i := 20) (v := ?Rv20x42) rfl (by kernel_rfl) (by kernel_rfl) (by kernel_rfl) (fun _ _ _ h => h) (Or.inl ⟨by rfl, ?Ry20x42⟩) (by assumption) ?Rr20x42
                  case Ry20x42 => first | (intro w hSw; (try dsimp only at hSw); go_simp; done) | (intro w hSw; (try dsimp only at hSw); go_simp; with_reducible rfl)
                  case' Rr20x42 => try simp only [Act.put, List.setIfInBounds_toArray, List.set_cons_zero, List.set_cons_succ]
                  refine wpAnyH_done (by kernel_rfl) ?_ _
                  obtain ⟨W7, hW7, hE7, t0, t1, ho7⟩ := putZ HXR5.out HZB.out (Nat.le_refl _) HO5.out (.slice VA vn vc) (.int .i64 ((cl : Int) + 1))
                  rw [hW7]
                  have hge := HZB.out.ge
                  have hbr : b < wr.heap.size := by have := World.block_lt_of_cell? _ _ HM.out.x0; exact this
                  have hbZ : b < aZ := by omega
                  have HM7 := hid (HM.out.ext2 hE7)
                  have HS7 := hid (HS.out.ext2 hE7)
                  have hbr2 : b + 1 + 1 < wr.heap.size := by have := World.block_lt_of_cell? _ _ HS.out.r0; exact this
                  have HSL := hid (ho7.num_sl (S := fun d => d ≠ b ∧ d ≠ b + 1 + 1) (fun d hd => ⟨by omega, by omega⟩))
                  have y0 := HM7.out.x0
                  have y1 := HM7.out.x1
                  have fx0 := HM7.out.fx 0
                  have fx1 := HM7.out.fx 1
                  clear hW7 hE7 ho7 hge x0 x1 q0 q1 q2
                  have hcl1 : 1000 - cl = (1000 - (cl + 1)) + 1 := by omega
                  have HCL := hid hcl1
                  clear hcl1
                  cases r with
                  | true =>
                    obtain ⟨rfl, rfl, rfl⟩ := HV1.out rfl
                    have HP7 := hid (HM7.out.put (cl + 1) HSL.out)
                    have HQ7 := hid (HS7.out.put (.slice VA E.length vc) (.int .i64 ((cl + 1 : Nat) : Int)))
                    go_wp2
                    first
                      | go_roundw
                      | refine ⟨?rel, ?measure⟩
                    case rel => exact ⟨j, VA, vc, E, cl + 1, rfl, hj, hEle, by omega, HP7, HQ7, hid (by rw [← HD.out, HCL.out, delM_yes hjM (by rw [HE.out]; exact HR.out), HE.out])⟩
                    case measure => rw [boxK_of HM.out.x1]; exact Nat.lt_of_le_of_lt (Nat.le_of_eq (congrArg (fun z => 1000 - z) (boxK_of HP7.out.x1))) (by omega)
                  | false =>
                    obtain ⟨rfl, rfl, rfl⟩ := HV2.out rfl
                    have HP7 := hid (HM7.out.put (cl + 1) HM7.out.sl)
                    have HQ7 := hid (HS7.out.put (.slice (some ⟨g1, o1, none⟩) M.length vc) (.int .i64 ((cl + 1 : Nat) : Int)))
                    go_wp2
                    first
                      | go_roundw
                      | refine ⟨?rel, ?measure⟩
                    case rel => exact ⟨j + 1, _, vc, M, cl + 1, by go_num, by omega, hM, by omega, HP7, HQ7, hid (by rw [← HD.out, HCL.out, delM_no hjM (by rw [HE.out]; exact HR.out)])⟩
                    case measure => rw [boxK_of HM.out.x1]; exact Nat.lt_of_le_of_lt (Nat.le_of_eq (congrArg (fun z => 1000 - z) (boxK_of HP7.out.x1))) (by omega)
      case' Rb18x12 =>
        go_simp
        obtain ⟨wZ, aZ, hA, hsz, hER1, hge, hob⟩ := extAlloc HXR0.out (.cells #[.slice none 0 0, .int .i64 0] 76)
        refine Eq.mpr (congrArg (K _) hA) ?_
        first | rw [hsz] | (have hq : wr.heap.size = aZ := hsz; rw [hq]; clear hq) | skip
        have HZB := hid (show ZB wr.heap.size aZ wZ from ⟨hob, hge⟩)
        clear hA hsz hge hob
        have HXR1 := hid (HXR0.out.trans hER1)
        clear hER1
        refine hK.out _ _ (ext5 HC5.out HXR1.out) (fun hSR1 => ?_)
        clear hK K
        try simp only [Act.put, List.setIfInBounds_toArray, List.set_cons_zero, List.set_cons_succ]
        refine wpAnyH_ready (rs := [2]) (by kernel_rfl) (by simp) ?_
        refine (AllReadyH.consL rfl (fun K hK => ?Rb2x43) AllReadyH.nil)
        case' Rb2x43 =>
          go_simp
          have hOF := freshX HXR1.out
          obtain ⟨wA, sA, hA, -, hER2, -, -⟩ := extAlloc HXR1.out (.cells #[] 36)
          rw [hA] at hOF
          refine Eq.mpr (congrArg (K _) hA) ?_
          have HOF := hid hOF
          clear hOF hA
          have HXR2 := hid (HXR1.out.trans hER2)
          have HZB := hid (HZB.out.ext hER2)
          clear hER2
          refine hK.out _ _ (ext5 HC5.out HXR2.out) (fun hSR2 => ?_)
          clear hK K
          try simp only [Act.put, List.setIfInBounds_toArray, List.set_cons_zero, List.set_cons_succ]
          refine wpAnyH_ready (rs := [7]) (by kernel_rfl) (by simp) ?_
          refine (AllReadyH.consL rfl (fun K hK => ?Rb7x44) AllReadyH.nil)
          case' Rb7x44 =>
            refine step_appS rfl (.tmp 24) (.tmp 28) 23 rfl wr.heap.size 36 i0 _ 1 4 Try.underlying23 HI.out HZ0.out HZ1.out HZ2.out rfl u32R rfl _ [] rfl HOF.out (some ⟨g1, o1, none⟩) j c1 (M.take j) (fun d => d < wr.heap.size) rfl ((HS2.out.mono (fun b _ h => h.lt)).ext HXR2.out) (fun d hd _ => ⟨trivial, fun e => by have := HOF.out.block d e.symm; omega⟩) (by simp; omega) (by simp; omega) (by exact HXR2.out.size) ?_
            intro A4 c4 w4 hown4 hg4
            have HO4 : Hid (OwnS u32R w4 wr.heap.size 36 All (.slice A4 j c4) (M.take j)) := hid (by simpa using hown4)
            have HXR3 := hid (HXR2.out.grown hg4 (fun k hk => (HOF.out.block _ hk).1))
            try have HZB := hid (HZB.out.gr hg4 (HZB.out.ne HOF.out))
            clear hown4 hg4
            simp only [List.length_nil, Nat.zero_add]
            refine hK.out _ _ (ext5 HC5.out HXR3.out) (fun hSR3 => ?_)
            clear hK K
            try simp only [Act.put, List.setIfInBounds_toArray, List.set_cons_zero, List.set_cons_succ]
            refine wpAnyH_ready (rs := [13]) (by kernel_rfl) (by simp) ?_
            refine (AllReadyH.consL rfl (fun K hK => ?Rb13x45) AllReadyH.nil)
            case' Rb13x45 =>
              refine step_appS rfl (.tmp 29) (.tmp 34) 23 rfl wr.heap.size 36 i0 _ 1 4 Try.underlying23 HI.out HZ0.out HZ1.out HZ2.out rfl u32R rfl (.slice A4 j c4) (M.take j) rfl HO4.out A3 (M.length - (j + 1)) (c1 - (j + 1)) (M.drop (j + 1)) (fun d => d < wr.heap.size) rfl ((HS3.out.mono (fun b _ h => h.lt)).ext HXR3.out) (fun d hd _ => ⟨trivial, fun e => by have := HO4.out.block d e.symm; omega⟩) (by have := HKL.out; omega) (by have := HKL.out; omega) (by exact HXR3.out.size) ?_
              intro A5 c5 w5 hown5 hg5
              have HXR4 := hid (HXR3.out.grown hg5 (fun k hk => (HO4.out.block _ hk).1))
              try have HZB := hid (HZB.out.gr hg5 (HZB.out.ne HO4.out))
              rw [HKL.out, HEL.out, HEE.out] at hown5
              have HO5 := hid hown5
              clear hown5 hg5
              rw [HKL.out, HEL.out]
              refine hK.out _ _ (ext5 HC5.out HXR4.out) (fun hSR4 => ?_)
              clear hK K
              try simp only [Act.put, List.setIfInBounds_toArray, List.set_cons_zero, List.set_cons_succ]
              refine wpAnyH_ready (rs := [14]) (by kernel_rfl) (by simp) ?_
              refine (AllReadyH.consL rfl (fun K hK => ?Rb14x46) AllReadyH.nil)
              case' Rb14x46 =>
                go_simp
                go_at_call 50
                refine (rtry_in _ q (some ⟨g1, o1, none⟩) A5 M.length c1 E.length c5 cl hcl0 E HO5.out.sl r (by rw [HP.out]; exact HR.out)).mono ?_
                rintro e w6 ⟨hER5, rfl⟩
                obtain ⟨VA, vn, vc, hV, hV1, hV2⟩ := pick_sl r A5 E.length c5 (some ⟨g1, o1, none⟩) M.length c1
                rw [hV]
                have HV1 := hid hV1
                have HV2 := hid hV2
                clear hV hV1 hV2
                have HXR5 := hid (HXR4.out.trans hER5)
                have HZB := hid (HZB.out.ext hER5)
                have HO5 := hid (HO5.out.ext hER5)
                clear hER5
                refine hK.out _ _ (ext5 HC5.out HXR5.out) (fun hSR5 => ?_)
                clear hK K
                try simp only [Act.put, List.setIfInBounds_toArray, List.set_cons_zero, List.set_cons_succ]
                refine wpAnyH_takeL (i := 15) (v := ?Rv15x47) rfl (by kernel_rfl) (by kernel_rfl) (by kernel_rfl) (fun _ _ _ h => h) (Or.inl ⟨by rfl, ?Ry15x47⟩) (by assumption) ?Rr15x47
                case Ry15x47 => first | (intro w hSw; (try dsimp only at hSw); go_simp; done) | (intro w hSw; (try dsimp only at hSw); go_simp; with_reducible rfl)
                case' Rr15x47 => try simp only [Act.put, List.setIfInBounds_toArray, List.set_cons_zero, List.set_cons_succ]
                refine wpAnyH_takeL (i := 16) (v := ?Rv16x48) rfl (by kernel_rfl) (by kernel_rfl) (by kernel_rfl) (fun _ _ _ h => h) (Or.inl ⟨by rfl, ?Ry16x48⟩) (by assumption) ?Rr16x48
                case Ry16x48 => first | (intro w hSw; (try dsimp only at hSw); go_simp; done) | (intro w hSw; (try dsimp only at hSw); go_simp; with_reducible rfl)
                case' Rr16x48 => try simp only [Act.put, List.setIfInBounds_toArray, List.set_cons_zero, List.set_cons_succ]
                refine wpAnyH_takeL (i := 17) (v := ?Rv17x49) rfl (by kernel_rfl) (by kernel_rfl) (by kernel_rfl) (fun _ _ _ h => h) (Or.inl ⟨by rfl, ?Ry17x49⟩) (by assumption) ?Rr17x49
                case Ry17x49 => first | (intro w hSw; (try dsimp only at hSw); go_simp; done) | (intro w hSw; (try dsimp only at hSw); go_simp; with_reducible rfl)
                case' Rr17x49 => try simp only [Act.put, List.setIfInBounds_toArray, List.set_cons_zero, List.set_cons_succ]
                refine wpAnyH_ready (rs := [19]) (by kernel_rfl) (by simp) ?_
                refine (AllReadyH.consL rfl (fun K hK => ?Rb19x50) AllReadyH.nil)
                case' Rb19x50 =>
                  have z0 := HZB.out.c0
                  have z1 := HZB.out.c1
                  have zf0 := HZB.out.fr 0
                  have zf1 := HZB.out.fr 1
                  go_simp
                  refine hK.out _ _ (ext5 HC5.out ((HXR5.out.setCell HZB.out.ge _).setCell HZB.out.ge _)) (fun hSR6 => ?_)
                  clear hK K
                  try simp only [Act.put, List.setIfInBounds_toArray, List.set_cons_zero, List.set_cons_succ]
                  refine wpAnyH_takeL (i := 20) (v := ?Rv20x51) rfl (by kernel_rfl) (by kernel_rfl) (by kernel_rfl) (fun _ _ _ h => h) (Or.inl ⟨by rfl, ?Ry20x51⟩) (by assumption) ?Rr20x51
                  case Ry20x51 => first | (intro w hSw; (try dsimp only at hSw); go_simp; done) | (intro w hSw; (try dsimp only at hSw); go_simp; with_reducible rfl)
                  case' Rr20x51 => try simp only [Act.put, List.setIfInBounds_toArray, List.set_cons_zero, List.set_cons_succ]
                  refine wpAnyH_done (by kernel_rfl) ?_ _
                  obtain ⟨W7, hW7, hE7, t0, t1, ho7⟩ := putZ HXR5.out HZB.out (Nat.le_refl _) HO5.out (.slice VA vn vc) (.int .i64 ((cl : Int) + 1))
                  rw [hW7]
                  have hge := HZB.out.ge
                  have hbr : b < wr.heap.size := by have := World.block_lt_of_cell? _ _ HM.out.x0; exact this
                  have hbZ : b < aZ := by omega
                  have HM7 := hid (HM.out.ext2 hE7)
                  have HS7 := hid (HS.out.ext2 hE7)
                  have hbr2 : b + 1 + 1 < wr.heap.size := by have := World.block_lt_of_cell? _ _ HS.out.r0; exact this
                  have HSL := hid (ho7.num_sl (S := fun d => d ≠ b ∧ d ≠ b + 1 + 1) (fun d hd => ⟨by omega, by omega⟩))
                  have y0 := HM7.out.x0
                  have y1 := HM7.out.x1
                  have fx0 := HM7.out.fx 0
                  have fx1 := HM7.out.fx 1
                  clear hW7 hE7 ho7 hge x0 x1 q0 q1 q2
                  have hcl1 : 1000 - cl = (1000 - (cl + 1)) + 1 := by omega
                  have HCL := hid hcl1
                  clear hcl1
                  cases r with
                  | true =>
                    obtain ⟨rfl, rfl, rfl⟩ := HV1.out rfl
                    have HP7 := hid (HM7.out.put (cl + 1) HSL.out)
                    have HQ7 := hid (HS7.out.put (.slice VA E.length vc) (.int .i64 ((cl + 1 : Nat) : Int)))
                    go_wp2
                    first
                      | go_roundw
                      | refine ⟨?rel, ?measure⟩
                    case rel => exact ⟨j, VA, vc, E, cl + 1, rfl, hj, hEle, by omega, HP7, HQ7, hid (by rw [← HD.out, HCL.out, delM_yes hjM (by rw [HE.out]; exact HR.out), HE.out])⟩
                    case measure => rw [boxK_of HM.out.x1]; exact Nat.lt_of_le_of_lt (Nat.le_of_eq (congrArg (fun z => 1000 - z) (boxK_of HP7.out.x1))) (by omega)
                  | false =>
                    obtain ⟨rfl, rfl, rfl⟩ := HV2.out rfl
                    have HP7 := hid (HM7.out.put (cl + 1) HM7.out.sl)
                    have HQ7 := hid (HS7.out.put (.slice (some ⟨g1, o1, none⟩) M.length vc) (.int .i64 ((cl + 1 : Nat) : Int)))
                    go_wp2
                    first
                      | go_roundw
                      | refine ⟨?rel, ?measure⟩
                    case rel => exact ⟨j + 1, _, vc, M, cl + 1, by go_num, by omega, hM, by omega, HP7, HQ7, hid (by rw [← HD.out, HCL.out, delM_no hjM (by rw [HE.out]; exact HR.out)])⟩
                    case measure => rw [boxK_of HM.out.x1]; exact Nat.lt_of_le_of_lt (Nat.le_of_eq (congrArg (fun z => 1000 - z) (boxK_of HP7.out.x1))) (by omega)
    · have hend : delM P M (1000 - cl) j = (M, 1000 - cl) := delM_end (by omega)
      have hrd : redM P M.length M (1000 - cl) 0 = T := by rw [← HT.out, roundM, ← HD.out, hend]
      have HRD := hid hrd
      have hor : (¬ j < M.length) ∨ (j < M.length ∧ cl = 1000) := by omega
      clear hend hrd
      rcases hor with hjj | ⟨hjj, rfl⟩
      ·
        go_wp2_with fail
        clear x0 x1 hjj hkk
        obtain ⟨N, hN⟩ : ∃ N, M.length = N := ⟨_, rfl⟩
        have HNM := hid hN
        rw [hN] at HRD
        clear hN
        go_loopw [8] (fun i wr => ∃ (j : Nat) (A : Option Addr) (c : Nat) (M : List Nat) (cl : Nat), i = .int .i64 j ∧ j ≤ N ∧ cl ≤ 1000 ∧ M.length ≤ 1000 ∧ Hid (M.length = N) ∧ Hid (RM b w wr A c M cl) ∧ Hid (RS b q wr) ∧ Hid (redM P (N - j) M (1000 - cl) j = T)) (fun i _ => N - (intOf i).toNat)
        case atStart => exact ⟨0, A1, c1, M, _, rfl, by omega, by omega, hM, HNM, HM, HS, HRD⟩
        case round =>
          obtain ⟨j, A1, c1, M, cl, rfl, hj, hcl, hM, HNM, HM, HS, HD⟩ := hrel
          have x0 := HM.out.x0
          have x1 := HM.out.x1
          have hMN := HNM.out
          by_cases hkk : j < N ∧ cl < 1000
          · obtain ⟨hjN, hcl0⟩ := hkk
            have hjM : j < M.length := by omega
            obtain ⟨x, hx⟩ : ∃ x, M[j]? = some x := ⟨_, List.getElem?_eq_getElem hjM⟩
            obtain ⟨g1, o1, rfl, cx, hx32⟩ := HM.out.sl.num_at hx
            have HX := hid hx
            have HNX := hid (show ∀ M' l', redK P M (1000 - cl) j = (M', l') → redM P (N - (j + 1)) M' l' (j + 1) = T by
              intro M' l' h
              rw [← HD.out, show N - j = (N - (j + 1)) + 1 by omega, redM_step (by omega), h])
            have hcap := HM.out.sl.cap
            obtain ⟨hcap1, hcap2⟩ := hcap
            clear hx hMN
            by_cases hx0 : x = 0
            · subst hx0
              have HN5 := hid (HNX.out _ _ (redK_zero HX.out))
              go_wp2
              first
                | go_roundw
                | refine ⟨?rel, ?measure⟩
              case rel => exact ⟨j + 1, _, c1, M, cl, by go_num, by omega, hcl, hM, HNM, HM, HS, HN5⟩
              case measure => simp [intOf]; omega
            · have hx0' : ((x : Int) == 0) = false := by simp; omega
              obtain ⟨r, hr⟩ : ∃ r, P (M.set j 0) = r := ⟨_, rfl⟩
              have HR := hid hr
              have q0 := HS.out.q0
              have q1 := HS.out.q1
              have q2 := HS.out.q2
              have HC5 := hid (And.intro x0 (And.intro x1 (And.intro q0 (And.intro q1 q2))))
              clear hr
              go_wp2_with fail
              have HXU1_0 := hid ((Ext.refl wr).drew)
              refine wp_region_held_drew (S := (fun w' => w'.cell? ⟨b, 0, none⟩ = some (.slice (some ⟨g1, o1, none⟩) M.length c1) ∧ w'.cell? ⟨b, 1, none⟩ = some (.int .i64 cl) ∧ w'.cell? ⟨b + 1, 0, none⟩ = some (.int .u32 q.least) ∧ w'.cell? ⟨b + 1, 1, none⟩ = some (.int .i64 q.count) ∧ w'.cell? ⟨b + 1, 2, none⟩ = some (.bool q.pair))) (by kernel_rfl) ⟨x0, x1, q0, q1, q2⟩ (fun hSU10 => ?_)
              refine wpAnyH_takeL (i := 0) (v := ?U1v0x1) rfl (by kernel_rfl) (by kernel_rfl) (by kernel_rfl) (fun _ _ _ h => h) (Or.inl ⟨by rfl, ?U1y0x1⟩) (by assumption) ?U1r0x1
              case U1y0x1 => first | (intro w hSw; (try dsimp only at hSw); go_simp; done) | (intro w hSw; (try dsimp only at hSw); go_simp; with_reducible rfl)
              case' U1r0x1 => try simp only [Act.put, List.setIfInBounds_toArray, List.set_cons_zero, List.set_cons_succ]
              refine wpAnyH_takeL (i := 1) (v := ?U1v1x2) rfl (by kernel_rfl) (by kernel_rfl) (by kernel_rfl) (fun _ _ _ h => h) (Or.inl ⟨by rfl, ?U1y1x2⟩) (by assumption) ?U1r1x2
              case U1y1x2 => first | (intro w hSw; (try dsimp only at hSw); go_simp; done) | (intro w hSw; (try dsimp only at hSw); go_simp; with_reducible rfl)
              case' U1r1x2 => try simp only [Act.put, List.setIfInBounds_toArray, List.set_cons_zero, List.set_cons_succ]
              refine wpAnyH_takeL (i := 2) (v := ?U1v2x3) rfl (by kernel_rfl) (by kernel_rfl) (by kernel_rfl) (fun _ _ _ h => h) (Or.inl ⟨by rfl, ?U1y2x3⟩) (by assumption) ?U1r2x3
              case U1y2x3 => first | (intro w hSw; (try dsimp only at hSw); go_simp; done) | (intro w hSw; (try dsimp only at hSw); go_simp; with_reducible rfl)
              case' U1r2x3 => try simp only [Act.put, List.setIfInBounds_toArray, List.set_cons_zero, List.set_cons_succ]
              refine wpAnyH_takeL (i := 3) (v := ?U1v3x4) rfl (by kernel_rfl) (by kernel_rfl) (by kernel_rfl) (fun _ _ _ h => h) (Or.inl ⟨by rfl, ?U1y3x4⟩) (by assumption) ?U1r3x4
              case U1y3x4 => first | (intro w hSw; (try dsimp only at hSw); go_simp; done) | (intro w hSw; (try dsimp only at hSw); go_simp; with_reducible rfl)
              case' U1r3x4 => try simp only [Act.put, List.setIfInBounds_toArray, List.set_cons_zero, List.set_cons_succ]
              refine wpAnyH_takeL (i := 4) (v := ?U1v4x5) rfl (by kernel_rfl) (by kernel_rfl) (by kernel_rfl) (fun _ _ _ h => h) (Or.inl ⟨by rfl, ?U1y4x5⟩) (by assumption) ?U1r4x5
              case U1y4x5 => first | (intro w hSw; (try dsimp only at hSw); go_simp; done) | (intro w hSw; (try dsimp only at hSw); go_simp; with_reducible rfl)
              case' U1r4x5 => try simp only [Act.put, List.setIfInBounds_toArray, List.set_cons_zero, List.set_cons_succ]
              refine wpAnyH_ready (rs := [5, 10]) (by kernel_rfl) (by simp) ?_
              refine (AllReadyH.consL rfl (fun K hK => ?U1b5x6) (AllReadyH.consL rfl (fun K hK => ?U1b10x6) AllReadyH.nil))
              case' U1b5x6 =>
                go_simp
                go_at_call 51
                refine (with_any _ _ (some ⟨g1, o1, none⟩) M.length c1 M (HM.out.sl.ext HXU1_0.out) hM j 0 hjM (by omega)).mono ?_
                rintro e w5 ⟨hEU11, A5, c5, rfl, ho5⟩
                have HO5 := hid (ho5.lower HXU1_0.out.size)
                clear ho5
                have HXU1_1 := hid (HXU1_0.out.trans hEU11)
                clear hEU11
                refine hK.out _ _ (ext5 HC5.out HXU1_1.out) (fun hSU11 => ?_)
                clear hK K
                try simp only [Act.put, List.setIfInBounds_toArray, List.set_cons_zero, List.set_cons_succ]
                refine wpAnyH_ready (rs := [6, 10]) (by kernel_rfl) (by simp) ?_
                refine (AllReadyH.consL rfl (fun K hK => ?U1b6x7) (AllReadyH.consL rfl (fun K hK => ?U1b10x7) AllReadyH.nil))
                case' U1b6x7 =>
                  go_simp
                  go_at_call 50
                  refine (rtry_in _ q (some ⟨g1, o1, none⟩) A5 M.length c1 M.length c5 cl hcl0 (M.set j 0) HO5.out.sl r (by rw [HP.out]; exact HR.out)).mono ?_
                  rintro e w6 ⟨hEU12, rfl⟩
                  obtain ⟨VA, vn, vc, hV, hV1, hV2⟩ := pick_sl r A5 M.length c5 (some ⟨g1, o1, none⟩) M.length c1
                  rw [hV]
                  have HV1 := hid hV1
                  have HV2 := hid hV2
                  clear hV hV1 hV2
                  have HXU1_2 := hid (HXU1_1.out.trans hEU12)
                  have HO5 := hid (HO5.out.ext hEU12)
                  clear hEU12
                  refine hK.out _ _ (ext5 HC5.out HXU1_2.out) (fun hSU12 => ?_)
                  clear hK K
                  try simp only [Act.put, List.setIfInBounds_toArray, List.set_cons_zero, List.set_cons_succ]
                  refine wpAnyH_takeL (i := 7) (v := ?U1v7x8) rfl (by kernel_rfl) (by kernel_rfl) (by kernel_rfl) (fun _ _ _ h => h) (Or.inl ⟨by rfl, ?U1y7x8⟩) (by assumption) ?U1r7x8
                  case U1y7x8 => first | (intro w hSw; (try dsimp only at hSw); go_simp; done) | (intro w hSw; (try dsimp only at hSw); go_simp; with_reducible rfl)
                  case' U1r7x8 => try simp only [Act.put, List.setIfInBounds_toArray, List.set_cons_zero, List.set_cons_succ]
                  refine wpAnyH_takeL (i := 8) (v := ?U1v8x9) rfl (by kernel_rfl) (by kernel_rfl) (by kernel_rfl) (fun _ _ _ h => h) (Or.inl ⟨by rfl, ?U1y8x9⟩) (by assumption) ?U1r8x9
                  case U1y8x9 => first | (intro w hSw; (try dsimp only at hSw); go_simp; done) | (intro w hSw; (try dsimp only at hSw); go_simp; with_reducible rfl)
                  case' U1r8x9 => try simp only [Act.put, List.setIfInBounds_toArray, List.set_cons_zero, List.set_cons_succ]
                  refine wpAnyH_takeL (i := 9) (v := ?U1v9x10) rfl (by kernel_rfl) (by kernel_rfl) (by kernel_rfl) (fun _ _ _ h => h) (Or.inl ⟨by rfl, ?U1y9x10⟩) (by assumption) ?U1r9x10
                  case U1y9x10 => first | (intro w hSw; (try dsimp only at hSw); go_simp; done) | (intro w hSw; (try dsimp only at hSw); go_simp; with_reducible rfl)
                  case' U1r9x10 => try simp only [Act.put, List.setIfInBounds_toArray, List.set_cons_zero, List.set_cons_succ]
                  refine wpAnyH_ready (rs := [10]) (by kernel_rfl) (by simp) ?_
                  refine (AllReadyH.consL rfl (fun K hK => ?U1b10x11) AllReadyH.nil)
                  case' U1b10x11 =>
                    go_simp
                    obtain ⟨wZ, aZ, hA, hsz, hEU13, hge, hob⟩ := extAlloc HXU1_2.out (.cells #[.slice none 0 0, .int .i64 0] 76)
                    refine Eq.mpr (congrArg (K _) hA) ?_
                    first | rw [hsz] | (have hq : wr.heap.size = aZ := hsz; rw [hq]; clear hq) | skip
                    have HZB := hid (show ZB wr.heap.size aZ wZ from ⟨hob, hge⟩)
                    clear hA hsz hge hob
                    have HXU1_3 := hid (HXU1_2.out.trans hEU13)
                    have HO5 := hid (HO5.out.ext hEU13)
                    clear hEU13
                    refine hK.out _ _ (ext5 HC5.out HXU1_3.out) (fun hSU13 => ?_)
                    clear hK K
                    try simp only [Act.put, List.setIfInBounds_toArray, List.set_cons_zero, List.set_cons_succ]
                    refine wpAnyH_ready (rs := [11]) (by kernel_rfl) (by simp) ?_
                    refine (AllReadyH.consL rfl (fun K hK => ?U1b11x12) AllReadyH.nil)
                    case' U1b11x12 =>
                      have HXend := HXU1_3
                      have z0 := HZB.out.c0
                      have z1 := HZB.out.c1
                      have zf0 := HZB.out.fr 0
                      have zf1 := HZB.out.fr 1
                      go_simp
                      refine hK.out _ _ (ext5 HC5.out ((HXU1_3.out.setCell HZB.out.ge _).setCell HZB.out.ge _)) (fun hSU14 => ?_)
                      clear hK K
                      try simp only [Act.put, List.setIfInBounds_toArray, List.set_cons_zero, List.set_cons_succ]
                      refine wpAnyH_takeL (i := 12) (v := ?U1v12x13) rfl (by kernel_rfl) (by kernel_rfl) (by kernel_rfl) (fun _ _ _ h => h) (Or.inl ⟨by rfl, ?U1y12x13⟩) (by assumption) ?U1r12x13
                      case U1y12x13 => first | (intro w hSw; (try dsimp only at hSw); go_simp; done) | (intro w hSw; (try dsimp only at hSw); go_simp; with_reducible rfl)
                      case' U1r12x13 => try simp only [Act.put, List.setIfInBounds_toArray, List.set_cons_zero, List.set_cons_succ]
                      refine wpAnyH_done (by kernel_rfl) ?_ _
                      have HX3 := HXend
                      obtain ⟨W7, hW7, hE7, t0, t1, ho7⟩ := putZ HXend.out HZB.out (Nat.le_refl _) HO5.out (.slice VA vn vc) (.int .i64 ((cl : Int) + 1))
                      rw [hW7]
                      have hge := HZB.out.ge
                      have hbr : b < wr.heap.size := by have := World.block_lt_of_cell? _ _ HM.out.x0; exact this
                      have hbZ : b < aZ := by omega
                      have HM7 := hid (HM.out.ext2 hE7)
                      have HS7 := hid (HS.out.ext2 hE7)
                      have hbr2 : b + 1 + 1 < wr.heap.size := by have := World.block_lt_of_cell? _ _ HS.out.r0; exact this
                      have HSL := hid (ho7.num_sl (S := fun d => d ≠ b ∧ d ≠ b + 1 + 1) (fun d hd => ⟨by omega, by omega⟩))
                      have y0 := HM7.out.x0
                      have y1 := HM7.out.x1
                      have fx0 := HM7.out.fx 0
                      have fx1 := HM7.out.fx 1
                      clear hW7 hE7 ho7 hge x0 x1 q0 q1 q2
                      cases r with
                      | true =>
                        obtain ⟨rfl, rfl, rfl⟩ := HV1.out rfl
                        have HSL3 : Hid (Sl u32R W7 (fun d => d ≠ b ∧ d ≠ b + 1 + 1) (.slice VA (M.set j 0).length vc) (M.set j 0)) := hid (by rw [List.length_set]; exact HSL.out)
                        have HPP := HM7.out.put (cl + 1) HSL3.out
                        rw [List.length_set] at HPP
                        have HP7 := hid HPP
                        clear HPP
                        go_wp2
                        first
                          | go_roundw
                          | refine ⟨?rel, ?measure⟩
                        case rel => exact ⟨j + 1, VA, vc, M.set j 0, cl + 1, by go_num, by omega, by omega, by rw [List.length_set]; exact hM, hid (by rw [List.length_set]; exact HNM.out), hid HP7.out, hid (HS7.out.put _ _), hid (HNX.out _ _ ((redK_hit HX.out hx0 HR.out).trans (by congr 1)))⟩
                        case measure => simp [intOf]; omega
                      | false =>
                        obtain ⟨rfl, rfl, rfl⟩ := HV2.out rfl
                        obtain ⟨W8, hW8, hm8, hs8⟩ : ∃ W8, ((W7.setCell ⟨b, 0, none⟩ (.slice (some ⟨g1, o1, none⟩) M.length vc)).setCell ⟨b, 1, none⟩ (.int .i64 ((cl : Int) + 1))) = W8 ∧ RM b w W8 (some ⟨g1, o1, none⟩) vc M (cl + 1) ∧ RS b q W8 := ⟨_, rfl, HM7.out.put (cl + 1) HM7.out.sl, HS7.out.put _ _⟩
                        go_upto_region 13 with (fail)
                        try rw [hW8]
                        obtain ⟨cl2, hcl2⟩ : ∃ cl2, cl + 1 = cl2 := ⟨_, rfl⟩
                        rw [hcl2] at hm8
                        have HCL2 := hid hcl2
                        have HM8 := hid hm8
                        have HS8 := hid hs8
                        have hc2 : cl2 ≤ 1000 := by omega
                        clear hcl2 hm8 hs8 hW8 y0 y1 fx0 fx1 t0 t1
                        have y0 := HM8.out.x0
                        have y1 := HM8.out.x1
                        obtain ⟨g1', o1', hA, cx8, -⟩ := HM8.out.sl.num_at HX.out
                        cases hA
                        by_cases hx1 : x ≤ 1
                        · have hx1' : ¬ ((x : Int) > 1) := by omega
                          go_wp2
                          first
                            | go_roundw
                            | refine ⟨?rel, ?measure⟩
                          case rel => exact ⟨j + 1, _, vc, M, cl2, by go_num, by omega, hc2, hM, HNM, HM8, HS8, hid (HNX.out _ _ ((redK_one HX.out hx0 HR.out hx1).trans (by have := HCL2.out; congr 1; omega)))⟩
                          case measure => simp [intOf]; omega
                        · have hx1' : (x : Int) > 1 := by omega
                          obtain ⟨y, hy⟩ : ∃ y, x / 2 = y := ⟨_, rfl⟩
                          have HYY := hid hy
                          have hy32 : y < 4294967296 := by omega
                          have hq1 : (x : Int).tdiv 2 = (y : Int) := by rw [Int.tdiv_eq_ediv_of_nonneg (by omega)]; omega
                          have hq2 : IntKind.u32.wrap (y : Int) = (y : Int) := IntWalk.u32_in _ (by omega)
                          have hq3 : (x : Int) / 2 = (y : Int) := by omega
                          have q0 := HS8.out.q0
                          have q1 := HS8.out.q1
                          have q2 := HS8.out.q2
                          have HC6 := hid (And.intro y0 (And.intro y1 (And.intro q0 (And.intro q1 (And.intro q2 cx8)))))
                          have HBW := hid (show b + 1 + 1 < W8.heap.size by have := World.block_lt_of_cell? _ _ HS8.out.r0; exact this)
                          clear hy
                          go_wp2_with fail
                          have HXVU11_0 := hid ((Ext.refl W8).drew)
                          refine wp_region_last 16 (fun w' => w'.cell? ⟨b, 0, none⟩ = some (.slice (some ⟨g1, o1, none⟩) M.length vc) ∧ w'.cell? ⟨b, 1, none⟩ = some (.int .i64 cl2) ∧ w'.cell? ⟨b + 1, 0, none⟩ = some (.int .u32 q.least) ∧ w'.cell? ⟨b + 1, 1, none⟩ = some (.int .i64 q.count) ∧ w'.cell? ⟨b + 1, 2, none⟩ = some (.bool q.pair) ∧ w'.cell? ⟨g1, o1 + j, none⟩ = some (.int .u32 x)) (by kernel_rfl) ⟨y0, y1, q0, q1, q2, cx8⟩ (fun hSVU110 => ?_)
                          refine wpAnyE_takeS (i := 0) (v := ?VU11v0) rfl (by kernel_rfl) (by kernel_rfl) (by kernel_rfl) (by kernel_rfl) (by kernel_rfl) (fun _ _ _ h => h) (Or.inl ⟨by rfl, ?VU11y0⟩) hSVU110 ?VU11r0
                          case VU11y0 => first | (intro w hSw; (try dsimp only at hSw); go_simp; done) | (intro w hSw; (try dsimp only at hSw); go_simp; with_reducible rfl)
                          case' VU11r0 => try simp only [Act.put, List.setIfInBounds_toArray, List.set_cons_zero, List.set_cons_succ]
                          refine wpAnyE_takeS (i := 1) (v := ?VU11v1) rfl (by kernel_rfl) (by kernel_rfl) (by kernel_rfl) (by kernel_rfl) (by kernel_rfl) (fun _ _ _ h => h) (Or.inl ⟨by rfl, ?VU11y1⟩) hSVU110 ?VU11r1
                          case VU11y1 => first | (intro w hSw; (try dsimp only at hSw); go_simp; done) | (intro w hSw; (try dsimp only at hSw); go_simp; with_reducible rfl)
                          case' VU11r1 => try simp only [Act.put, List.setIfInBounds_toArray, List.set_cons_zero, List.set_cons_succ]
                          refine wpAnyE_takeS (i := 2) (v := ?VU11v2) rfl (by kernel_rfl) (by kernel_rfl) (by kernel_rfl) (by kernel_rfl) (by kernel_rfl) (fun _ _ _ h => h) (Or.inl ⟨by rfl, ?VU11y2⟩) hSVU110 ?VU11r2
                          case VU11y2 => first | (intro w hSw; (try dsimp only at hSw); go_simp; done) | (intro w hSw; (try dsimp only at hSw); go_simp; with_reducible rfl)
                          case' VU11r2 => try simp only [Act.put, List.setIfInBounds_toArray, List.set_cons_zero, List.set_cons_succ]
                          refine wpAnyE_takeS (i := 3) (v := ?VU11v3) rfl (by kernel_rfl) (by kernel_rfl) (by kernel_rfl) (by kernel_rfl) (by kernel_rfl) (fun _ _ _ h => h) (Or.inl ⟨by rfl, ?VU11y3⟩) hSVU110 ?VU11r3
                          case VU11y3 => first | (intro w hSw; (try dsimp only at hSw); go_simp; done) | (intro w hSw; (try dsimp only at hSw); go_simp; with_reducible rfl)
                          case' VU11r3 => try simp only [Act.put, List.setIfInBounds_toArray, List.set_cons_zero, List.set_cons_succ]
                          refine wpAnyE_takeS (i := 4) (v := ?VU11v4) rfl (by kernel_rfl) (by kernel_rfl) (by kernel_rfl) (by kernel_rfl) (by kernel_rfl) (fun _ _ _ h => h) (Or.inl ⟨by rfl, ?VU11y4⟩) hSVU110 ?VU11r4
                          case VU11y4 => first | (intro w hSw; (try dsimp only at hSw); go_simp; done) | (intro w hSw; (try dsimp only at hSw); go_simp; with_reducible rfl)
                          case' VU11r4 => try simp only [Act.put, List.setIfInBounds_toArray, List.set_cons_zero, List.set_cons_succ]
                          refine wpAnyE_takeS (i := 5) (v := ?VU11v5) rfl (by kernel_rfl) (by kernel_rfl) (by kernel_rfl) (by kernel_rfl) (by kernel_rfl) (fun _ _ _ h => h) (Or.inl ⟨by rfl, ?VU11y5⟩) hSVU110 ?VU11r5
                          case VU11y5 => first | (intro w hSw; (try dsimp only at hSw); go_simp; done) | (intro w hSw; (try dsimp only at hSw); go_simp; with_reducible rfl)
                          case' VU11r5 => try simp only [Act.put, List.setIfInBounds_toArray, List.set_cons_zero, List.set_cons_succ]
                          refine wpAnyE_takeS (i := 6) (v := ?VU11v6) rfl (by kernel_rfl) (by kernel_rfl) (by kernel_rfl) (by kernel_rfl) (by kernel_rfl) (fun _ _ _ h => h) (Or.inl ⟨by rfl, ?VU11y6⟩) hSVU110 ?VU11r6
                          case VU11y6 => first | (intro w hSw; (try dsimp only at hSw); go_simp; done) | (intro w hSw; (try dsimp only at hSw); go_simp; with_reducible rfl)
                          case' VU11r6 => try simp only [Act.put, List.setIfInBounds_toArray, List.set_cons_zero, List.set_cons_succ]
                          refine wpAnyE_takeS (i := 7) (v := ?VU11v7) rfl (by kernel_rfl) (by kernel_rfl) (by kernel_rfl) (by kernel_rfl) (by kernel_rfl) (fun _ _ _ h => h) (Or.inl ⟨by rfl, ?VU11y7⟩) hSVU110 ?VU11r7
                          case VU11y7 => first | (intro w hSw; (try dsimp only at hSw); go_simp; done) | (intro w hSw; (try dsimp only at hSw); go_simp; with_reducible rfl)
                          case' VU11r7 => try simp only [Act.put, List.setIfInBounds_toArray, List.set_cons_zero, List.set_cons_succ]
                          refine wpAnyE_takeS (i := 8) (v := ?VU11v8) rfl (by kernel_rfl) (by kernel_rfl) (by kernel_rfl) (by kernel_rfl) (by kernel_rfl) (fun _ _ _ h => h) (Or.inl ⟨by rfl, ?VU11y8⟩) hSVU110 ?VU11r8
                          case VU11y8 => first | (intro w hSw; (try dsimp only at hSw); go_simp; done) | (intro w hSw; (try dsimp only at hSw); go_simp; with_reducible rfl)
                          case' VU11r8 => try simp only [Act.put, List.setIfInBounds_toArray, List.set_cons_zero, List.set_cons_succ]
                          refine wpAnyE_takeS (i := 9) (v := ?VU11v9) rfl (by kernel_rfl) (by kernel_rfl) (by kernel_rfl) (by kernel_rfl) (by kernel_rfl) (fun _ _ _ h => h) (Or.inl ⟨by rfl, ?VU11y9⟩) hSVU110 ?VU11r9
                          case VU11y9 => first | (intro w hSw; (try dsimp only at hSw); go_simp; done) | (intro w hSw; (try dsimp only at hSw); go_simp; with_reducible rfl)
                          case' VU11r9 => try simp only [Act.put, List.setIfInBounds_toArray, List.set_cons_zero, List.set_cons_succ]
                          refine wpAnyE_takeS (i := 10) (v := ?VU11v10) rfl (by kernel_rfl) (by kernel_rfl) (by kernel_rfl) (by kernel_rfl) (by kernel_rfl) (fun _ _ _ h => h) (Or.inl ⟨by rfl, ?VU11y10⟩) hSVU110 ?VU11r10
                          case VU11y10 => first | (intro w hSw; (try dsimp only at hSw); go_simp; done) | (intro w hSw; (try dsimp only at hSw); go_simp; with_reducible rfl)
                          case' VU11r10 => try simp only [Act.put, List.setIfInBounds_toArray, List.set_cons_zero, List.set_cons_succ]
                          refine wpAnyE_one (k := 11) (by kernel_rfl) rfl (fun K hK => ?_)
                          go_simp
                          go_at_call 51
                          refine (with_any _ _ (some ⟨g1, o1, none⟩) M.length vc M (HM8.out.sl.ext HXVU11_0.out) hM j y hjM hy32).mono ?_
                          rintro e w9 ⟨hEVU111, A9, c9, rfl, ho9⟩
                          have HO9 := hid (ho9.lower HXVU11_0.out.size)
                          clear ho9
                          have HXVU11_1 := hid (HXVU11_0.out.trans hEVU111)
                          clear hEVU111
                          refine hK.out _ _ (fun _ => ext6 HC6.out HXVU11_1.out) ?_
                          clear hK K
                          try simp only [Act.put, List.setIfInBounds_toArray, List.set_cons_zero, List.set_cons_succ]
                          refine wpAnyE_one (k := 12) (by kernel_rfl) rfl (fun K hK => ?_)
                          go_simp
                          go_at_call 50
                          obtain ⟨VB, vm, vd, k2, r2, hg1, hg2, hcall⟩ := rtry_gen _ q (some ⟨g1, o1, none⟩) A9 M.length vc M.length c9 cl2 hc2 (M.set j y) HO9.out.sl
                          refine hcall.mono ?_
                          rintro e w10 ⟨hEVU112, rfl⟩
                          have HG1 := hid hg1
                          have HG2 := hid hg2
                          clear hg1 hg2 hcall
                          have HXVU11_2 := hid (HXVU11_1.out.trans hEVU112)
                          have HO9 := hid (HO9.out.ext hEVU112)
                          clear hEVU112
                          refine hK.out _ _ (fun _ => ext6 HC6.out HXVU11_2.out) ?_
                          clear hK K
                          try simp only [Act.put, List.setIfInBounds_toArray, List.set_cons_zero, List.set_cons_succ]
                          refine wpAnyE_takeS (i := 13) (v := ?VU11v13) rfl (by kernel_rfl) (by kernel_rfl) (by kernel_rfl) (by kernel_rfl) (by kernel_rfl) (fun _ _ _ h => h) (Or.inl ⟨by rfl, ?VU11y13⟩) (ext6 HC6.out HXVU11_2.out) ?VU11r13
                          case VU11y13 => first | (intro w hSw; (try dsimp only at hSw); go_simp; done) | (intro w hSw; (try dsimp only at hSw); go_simp; with_reducible rfl)
                          case' VU11r13 => try simp only [Act.put, List.setIfInBounds_toArray, List.set_cons_zero, List.set_cons_succ]
                          refine wpAnyE_takeS (i := 14) (v := ?VU11v14) rfl (by kernel_rfl) (by kernel_rfl) (by kernel_rfl) (by kernel_rfl) (by kernel_rfl) (fun _ _ _ h => h) (Or.inl ⟨by rfl, ?VU11y14⟩) (ext6 HC6.out HXVU11_2.out) ?VU11r14
                          case VU11y14 => first | (intro w hSw; (try dsimp only at hSw); go_simp; done) | (intro w hSw; (try dsimp only at hSw); go_simp; with_reducible rfl)
                          case' VU11r14 => try simp only [Act.put, List.setIfInBounds_toArray, List.set_cons_zero, List.set_cons_succ]
                          refine wpAnyE_takeP (i := 15) (v := ?VU11v15) rfl (by kernel_rfl) (by kernel_rfl) (by kernel_rfl) (by decide) (fun _ _ _ h => h) (Or.inl ⟨by rfl, ?VU11y15⟩) (ext6 HC6.out HXVU11_2.out) ?VU11r15
                          case VU11y15 => first | (intro w hSw; (try dsimp only at hSw); go_simp; done) | (intro w hSw; (try dsimp only at hSw); go_simp; with_reducible rfl)
                          case' VU11r15 => try simp only [Act.put, List.setIfInBounds_toArray, List.set_cons_zero, List.set_cons_succ]
                          refine wpAnyE_one (k := 16) (by kernel_rfl) rfl (fun K hK => ?_)
                          have z0 := HM8.out.x0
                          have HM9 := hid (HM8.out.ext2 HXVU11_2.out)
                          have HS9 := hid (HS8.out.ext2 HXVU11_2.out)
                          clear y0 y1 z0
                          have y0 := HM9.out.x0
                          have y1 := HM9.out.x1
                          have fx0 := HM9.out.fx 0
                          have fx1 := HM9.out.fx 1
                          go_simp
                          have HXend := HXVU11_2
                          refine hK.out _ _ (fun h => absurd (show true = false from h) (by simp)) ?_
                          clear hK K
                          try simp only [Act.put, List.setIfInBounds_toArray, List.set_cons_zero, List.set_cons_succ]
                          refine wpAnyE_done (by kernel_rfl) ?_ _
                          have hbw := HBW.out
                          go_wp2
                          rcases Nat.lt_or_ge cl2 1000 with hc9 | hc9
                          · obtain ⟨rfl, hp9, hv1, hv2⟩ := HG2.out hc9
                            have hp9' : P (M.set j (x / 2)) = r2 := by rw [HYY.out, ← HP.out]; exact hp9
                            cases r2 with
                            | true =>
                              obtain ⟨rfl, rfl, rfl⟩ := hv1 rfl
                              have HSL2 := hid (HO9.out.num_sl (S := fun d => d ≠ b ∧ d ≠ b + 1 + 1) (fun d hd => ⟨by omega, by omega⟩))
                              have hsl3 := HSL2.out
                              have hlen : M.length = (M.set j y).length := by rw [List.length_set]
                              rw [hlen] at hsl3
                              have HPP := HM9.out.put (cl2 + 1) hsl3
                              have HPQ := HPP
                              rw [List.length_set] at HPQ
                              first
                                | go_roundw
                                | refine ⟨?rel, ?measure⟩
                              case rel => exact ⟨j + 1, VB, vd, M.set j y, cl2 + 1, by go_num, by omega, by omega, by rw [List.length_set]; exact hM, hid (by rw [List.length_set]; exact HNM.out), hid HPQ, hid (HS9.out.put _ _), hid (HNX.out _ _ ((redK_half HX.out hx0 HR.out hx1 (by have := HCL2.out; omega) hp9').trans (by rw [HYY.out]; have := HCL2.out; congr 1; omega)))⟩
                              case measure => simp [intOf]; omega
                            | false =>
                              obtain ⟨rfl, rfl, rfl⟩ := hv2 rfl
                              have HPP := HM9.out.put (cl2 + 1) HM9.out.sl
                              first
                                | go_roundw
                                | refine ⟨?rel, ?measure⟩
                              case rel => exact ⟨j + 1, _, vd, M, cl2 + 1, by go_num, by omega, by omega, hM, HNM, hid HPP, hid (HS9.out.put _ _), hid (HNX.out _ _ ((redK_miss HX.out hx0 HR.out hx1 (by have := HCL2.out; omega) hp9').trans (by have := HCL2.out; congr 1; omega)))⟩
                              case measure => simp [intOf]; omega
                          · obtain ⟨rfl, rfl, rfl, rfl, rfl⟩ := HG1.out (by omega)
                            have HPP := HM9.out.put 1000 HM9.out.sl
                            first
                              | go_roundw
                              | refine ⟨?rel, ?measure⟩
                            case rel => exact ⟨j + 1, _, vd, M, 1000, by go_num, by omega, by omega, hM, HNM, hid HPP, hid (HS9.out.put _ _), hid (HNX.out _ _ (redK_out HX.out hx0 HR.out hx1 (by have := HCL2.out; omega)))⟩
                            case measure => simp [intOf]; omega
                case' U1b10x7 =>
                  go_simp
                  obtain ⟨wZ, aZ, hA, hsz, hEU12, hge, hob⟩ := extAlloc HXU1_1.out (.cells #[.slice none 0 0, .int .i64 0] 76)
                  refine Eq.mpr (congrArg (K _) hA) ?_
                  first | rw [hsz] | (have hq : wr.heap.size = aZ := hsz; rw [hq]; clear hq) | skip
                  have HZB := hid (show ZB wr.heap.size aZ wZ from ⟨hob, hge⟩)
                  clear hA hsz hge hob
                  have HXU1_2 := hid (HXU1_1.out.trans hEU12)
                  have HO5 := hid (HO5.out.ext hEU12)
                  clear hEU12
                  refine hK.out _ _ (ext5 HC5.out HXU1_2.out) (fun hSU12 => ?_)
                  clear hK K
                  try simp only [Act.put, List.setIfInBounds_toArray, List.set_cons_zero, List.set_cons_succ]
                  refine wpAnyH_ready (rs := [6]) (by kernel_rfl) (by simp) ?_
                  refine (AllReadyH.consL rfl (fun K hK => ?U1b6x14) AllReadyH.nil)
                  case' U1b6x14 =>
                    go_simp
                    go_at_call 50
                    refine (rtry_in _ q (some ⟨g1, o1, none⟩) A5 M.length c1 M.length c5 cl hcl0 (M.set j 0) HO5.out.sl r (by rw [HP.out]; exact HR.out)).mono ?_
                    rintro e w6 ⟨hEU13, rfl⟩
                    obtain ⟨VA, vn, vc, hV, hV1, hV2⟩ := pick_sl r A5 M.length c5 (some ⟨g1, o1, none⟩) M.length c1
                    rw [hV]
                    have HV1 := hid hV1
                    have HV2 := hid hV2
                    clear hV hV1 hV2
                    have HXU1_3 := hid (HXU1_2.out.trans hEU13)
                    have HO5 := hid (HO5.out.ext hEU13)
                    have HZB := hid (HZB.out.ext hEU13)
                    clear hEU13
                    refine hK.out _ _ (ext5 HC5.out HXU1_3.out) (fun hSU13 => ?_)
                    clear hK K
                    try simp only [Act.put, List.setIfInBounds_toArray, List.set_cons_zero, List.set_cons_succ]
                    refine wpAnyH_takeL (i := 7) (v := ?U1v7x15) rfl (by kernel_rfl) (by kernel_rfl) (by kernel_rfl) (fun _ _ _ h => h) (Or.inl ⟨by rfl, ?U1y7x15⟩) (by assumption) ?U1r7x15
                    case U1y7x15 => first | (intro w hSw; (try dsimp only at hSw); go_simp; done) | (intro w hSw; (try dsimp only at hSw); go_simp; with_reducible rfl)
                    case' U1r7x15 => try simp only [Act.put, List.setIfInBounds_toArray, List.set_cons_zero, List.set_cons_succ]
                    refine wpAnyH_takeL (i := 8) (v := ?U1v8x16) rfl (by kernel_rfl) (by kernel_rfl) (by kernel_rfl) (fun _ _ _ h => h) (Or.inl ⟨by rfl, ?U1y8x16⟩) (by assumption) ?U1r8x16
                    case U1y8x16 => first | (intro w hSw; (try dsimp only at hSw); go_simp; done) | (intro w hSw; (try dsimp only at hSw); go_simp; with_reducible rfl)
                    case' U1r8x16 => try simp only [Act.put, List.setIfInBounds_toArray, List.set_cons_zero, List.set_cons_succ]
                    refine wpAnyH_takeL (i := 9) (v := ?U1v9x17) rfl (by kernel_rfl) (by kernel_rfl) (by kernel_rfl) (fun _ _ _ h => h) (Or.inl ⟨by rfl, ?U1y9x17⟩) (by assumption) ?U1r9x17
                    case U1y9x17 => first | (intro w hSw; (try dsimp only at hSw); go_simp; done) | (intro w hSw; (try dsimp only at hSw); go_simp; with_reducible rfl)
                    case' U1r9x17 => try simp only [Act.put, List.setIfInBounds_toArray, List.set_cons_zero, List.set_cons_succ]
                    refine wpAnyH_ready (rs := [11]) (by kernel_rfl) (by simp) ?_
                    refine (AllReadyH.consL rfl (fun K hK => ?U1b11x18) AllReadyH.nil)
                    case' U1b11x18 =>
                      have HXend := HXU1_3
                      have z0 := HZB.out.c0
                      have z1 := HZB.out.c1
                      have zf0 := HZB.out.fr 0
                      have zf1 := HZB.out.fr 1
                      go_simp
                      refine hK.out _ _ (ext5 HC5.out ((HXU1_3.out.setCell HZB.out.ge _).setCell HZB.out.ge _)) (fun hSU14 => ?_)
                      clear hK K
                      try simp only [Act.put, List.setIfInBounds_toArray, List.set_cons_zero, List.set_cons_succ]
                      refine wpAnyH_takeL (i := 12) (v := ?U1v12x19) rfl (by kernel_rfl) (by kernel_rfl) (by kernel_rfl) (fun _ _ _ h => h) (Or.inl ⟨by rfl, ?U1y12x19⟩) (by assumption) ?U1r12x19
                      case U1y12x19 => first | (intro w hSw; (try dsimp only at hSw); go_simp; done) | (intro w hSw; (try dsimp only at hSw); go_simp; with_reducible rfl)
                      case' U1r12x19 => try simp only [Act.put, List.setIfInBounds_toArray, List.set_cons_zero, List.set_cons_succ]
                      refine wpAnyH_done (by kernel_rfl) ?_ _
                      have HX3 := HXend
                      obtain ⟨W7, hW7, hE7, t0, t1, ho7⟩ := putZ HXend.out HZB.out (Nat.le_refl _) HO5.out (.slice VA vn vc) (.int .i64 ((cl : Int) + 1))
                      rw [hW7]
                      have hge := HZB.out.ge
                      have hbr : b < wr.heap.size := by have := World.block_lt_of_cell? _ _ HM.out.x0; exact this
                      have hbZ : b < aZ := by omega
                      have HM7 := hid (HM.out.ext2 hE7)
                      have HS7 := hid (HS.out.ext2 hE7)
                      have hbr2 : b + 1 + 1 < wr.heap.size := by have := World.block_lt_of_cell? _ _ HS.out.r0; exact this
                      have HSL := hid (ho7.num_sl (S := fun d => d ≠ b ∧ d ≠ b + 1 + 1) (fun d hd => ⟨by omega, by omega⟩))
                      have y0 := HM7.out.x0
                      have y1 := HM7.out.x1
                      have fx0 := HM7.out.fx 0
                      have fx1 := HM7.out.fx 1
                      clear hW7 hE7 ho7 hge x0 x1 q0 q1 q2
                      cases r with
                      | true =>
                        obtain ⟨rfl, rfl, rfl⟩ := HV1.out rfl
                        have HSL3 : Hid (Sl u32R W7 (fun d => d ≠ b ∧ d ≠ b + 1 + 1) (.slice VA (M.set j 0).length vc) (M.set j 0)) := hid (by rw [List.length_set]; exact HSL.out)
                        have HPP := HM7.out.put (cl + 1) HSL3.out
                        rw [List.length_set] at HPP
                        have HP7 := hid HPP
                        clear HPP
                        go_wp2
                        first
                          | go_roundw
                          | refine ⟨?rel, ?measure⟩
                        case rel => exact ⟨j + 1, VA, vc, M.set j 0, cl + 1, by go_num, by omega, by omega, by rw [List.length_set]; exact hM, hid (by rw [List.length_set]; exact HNM.out), hid HP7.out, hid (HS7.out.put _ _), hid (HNX.out _ _ ((redK_hit HX.out hx0 HR.out).trans (by congr 1)))⟩
                        case measure => simp [intOf]; omega
                      | false =>
                        obtain ⟨rfl, rfl, rfl⟩ := HV2.out rfl
                        obtain ⟨W8, hW8, hm8, hs8⟩ : ∃ W8, ((W7.setCell ⟨b, 0, none⟩ (.slice (some ⟨g1, o1, none⟩) M.length vc)).setCell ⟨b, 1, none⟩ (.int .i64 ((cl : Int) + 1))) = W8 ∧ RM b w W8 (some ⟨g1, o1, none⟩) vc M (cl + 1) ∧ RS b q W8 := ⟨_, rfl, HM7.out.put (cl + 1) HM7.out.sl, HS7.out.put _ _⟩
                        go_upto_region 13 with (fail)
                        try rw [hW8]
                        obtain ⟨cl2, hcl2⟩ : ∃ cl2, cl + 1 = cl2 := ⟨_, rfl⟩
                        rw [hcl2] at hm8
                        have HCL2 := hid hcl2
                        have HM8 := hid hm8
                        have HS8 := hid hs8
                        have hc2 : cl2 ≤ 1000 := by omega
                        clear hcl2 hm8 hs8 hW8 y0 y1 fx0 fx1 t0 t1
                        have y0 := HM8.out.x0
                        have y1 := HM8.out.x1
                        obtain ⟨g1', o1', hA, cx8, -⟩ := HM8.out.sl.num_at HX.out
                        cases hA
                        by_cases hx1 : x ≤ 1
                        · have hx1' : ¬ ((x : Int) > 1) := by omega
                          go_wp2
                          first
                            | go_roundw
                            | refine ⟨?rel, ?measure⟩
                          case rel => exact ⟨j + 1, _, vc, M, cl2, by go_num, by omega, hc2, hM, HNM, HM8, HS8, hid (HNX.out _ _ ((redK_one HX.out hx0 HR.out hx1).trans (by have := HCL2.out; congr 1; omega)))⟩
                          case measure => simp [intOf]; omega
                        · have hx1' : (x : Int) > 1 := by omega
                          obtain ⟨y, hy⟩ : ∃ y, x / 2 = y := ⟨_, rfl⟩
                          have HYY := hid hy
                          have hy32 : y < 4294967296 := by omega
                          have hq1 : (x : Int).tdiv 2 = (y : Int) := by rw [Int.tdiv_eq_ediv_of_nonneg (by omega)]; omega
                          have hq2 : IntKind.u32.wrap (y : Int) = (y : Int) := IntWalk.u32_in _ (by omega)
                          have hq3 : (x : Int) / 2 = (y : Int) := by omega
                          have q0 := HS8.out.q0
                          have q1 := HS8.out.q1
                          have q2 := HS8.out.q2
                          have HC6 := hid (And.intro y0 (And.intro y1 (And.intro q0 (And.intro q1 (And.intro q2 cx8)))))
                          have HBW := hid (show b + 1 + 1 < W8.heap.size by have := World.block_lt_of_cell? _ _ HS8.out.r0; exact this)
                          clear hy
                          go_wp2_with fail
                          have HXVU12_0 := hid ((Ext.refl W8).drew)
                          refine wp_region_last 16 (fun w' => w'.cell? ⟨b, 0, none⟩ = some (.slice (some ⟨g1, o1, none⟩) M.length vc) ∧ w'.cell? ⟨b, 1, none⟩ = some (.int .i64 cl2) ∧ w'.cell? ⟨b + 1, 0, none⟩ = some (.int .u32 q.least) ∧ w'.cell? ⟨b + 1, 1, none⟩ = some (.int .i64 q.count) ∧ w'.cell? ⟨b + 1, 2, none⟩ = some (.bool q.pair) ∧ w'.cell? ⟨g1, o1 + j, none⟩ = some (.int .u32 x)) (by kernel_rfl) ⟨y0, y1, q0, q1, q2, cx8⟩ (fun hSVU120 => ?_)
                          refine wpAnyE_takeS (i := 0) (v := ?VU12v0) rfl (by kernel_rfl) (by kernel_rfl) (by kernel_rfl) (by kernel_rfl) (by kernel_rfl) (fun _ _ _ h => h) (Or.inl ⟨by rfl, ?VU12y0⟩) hSVU120 ?VU12r0
                          case VU12y0 => first | (intro w hSw; (try dsimp only at hSw); go_simp; done) | (intro w hSw; (try dsimp only at hSw); go_simp; with_reducible rfl)
                          case' VU12r0 => try simp only [Act.put, List.setIfInBounds_toArray, List.set_cons_zero, List.set_cons_succ]
                          refine wpAnyE_takeS (i := 1) (v := ?VU12v1) rfl (by kernel_rfl) (by kernel_rfl) (by kernel_rfl) (by kernel_rfl) (by kernel_rfl) (fun _ _ _ h => h) (Or.inl ⟨by rfl, ?VU12y1⟩) hSVU120 ?VU12r1
                          case VU12y1 => first | (intro w hSw; (try dsimp only at hSw); go_simp; done) | (intro w hSw; (try dsimp only at hSw); go_simp; with_reducible rfl)
                          case' VU12r1 => try simp only [Act.put, List.setIfInBounds_toArray, List.set_cons_zero, List.set_cons_succ]
                          refine wpAnyE_takeS (i := 2) (v := ?VU12v2) rfl (by kernel_rfl) (by kernel_rfl) (by kernel_rfl) (by kernel_rfl) (by kernel_rfl) (fun _ _ _ h => h) (Or.inl ⟨by rfl, ?VU12y2⟩) hSVU120 ?VU12r2
                          case VU12y2 => first | (intro w hSw; (try dsimp only at hSw); go_simp; done) | (intro w hSw; (try dsimp only at hSw); go_simp; with_reducible rfl)
                          case' VU12r2 => try simp only [Act.put, List.setIfInBounds_toArray, List.set_cons_zero, List.set_cons_succ]
                          refine wpAnyE_takeS (i := 3) (v := ?VU12v3) rfl (by kernel_rfl) (by kernel_rfl) (by kernel_rfl) (by kernel_rfl) (by kernel_rfl) (fun _ _ _ h => h) (Or.inl ⟨by rfl, ?VU12y3⟩) hSVU120 ?VU12r3
                          case VU12y3 => first | (intro w hSw; (try dsimp only at hSw); go_simp; done) | (intro w hSw; (try dsimp only at hSw); go_simp; with_reducible rfl)
                          case' VU12r3 => try simp only [Act.put, List.setIfInBounds_toArray, List.set_cons_zero, List.set_cons_succ]
                          refine wpAnyE_takeS (i := 4) (v := ?VU12v4) rfl (by kernel_rfl) (by kernel_rfl) (by kernel_rfl) (by kernel_rfl) (by kernel_rfl) (fun _ _ _ h => h) (Or.inl ⟨by rfl, ?VU12y4⟩) hSVU120 ?VU12r4
                          case VU12y4 => first | (intro w hSw; (try dsimp only at hSw); go_simp; done) | (intro w hSw; (try dsimp only at hSw); go_simp; with_reducible rfl)
                          case' VU12r4 => try simp only [Act.put, List.setIfInBounds_toArray, List.set_cons_zero, List.set_cons_succ]
                          refine wpAnyE_takeS (i := 5) (v := ?VU12v5) rfl (by kernel_rfl) (by kernel_rfl) (by kernel_rfl) (by kernel_rfl) (by kernel_rfl) (fun _ _ _ h => h) (Or.inl ⟨by rfl, ?VU12y5⟩) hSVU120 ?VU12r5
                          case VU12y5 => first | (intro w hSw; (try dsimp only at hSw); go_simp; done) | (intro w hSw; (try dsimp only at hSw); go_simp; with_reducible rfl)
                          case' VU12r5 => try simp only [Act.put, List.setIfInBounds_toArray, List.set_cons_zero, List.set_cons_succ]
                          refine wpAnyE_takeS (i := 6) (v := ?VU12v6) rfl (by kernel_rfl) (by kernel_rfl) (by kernel_rfl) (by kernel_rfl) (by kernel_rfl) (fun _ _ _ h => h) (Or.inl ⟨by rfl, ?VU12y6⟩) hSVU120 ?VU12r6
                          case VU12y6 => first | (intro w hSw; (try dsimp only at hSw); go_simp; done) | (intro w hSw; (try dsimp only at hSw); go_simp; with_reducible rfl)
                          case' VU12r6 => try simp only [Act.put, List.setIfInBounds_toArray, List.set_cons_zero, List.set_cons_succ]
                          refine wpAnyE_takeS (i := 7) (v := ?VU12v7) rfl (by kernel_rfl) (by kernel_rfl) (by kernel_rfl) (by kernel_rfl) (by kernel_rfl) (fun _ _ _ h => h) (Or.inl ⟨by rfl, ?VU12y7⟩) hSVU120 ?VU12r7
                          case VU12y7 => first | (intro w hSw; (try dsimp only at hSw); go_simp; done) | (intro w hSw; (try dsimp only at hSw); go_simp; with_reducible rfl)
                          case' VU12r7 => try simp only [Act.put, List.setIfInBounds_toArray, List.set_cons_zero, List.set_cons_succ]
                          refine wpAnyE_takeS (i := 8) (v := ?VU12v8) rfl (by kernel_rfl) (by kernel_rfl) (by kernel_rfl) (by kernel_rfl) (by kernel_rfl) (fun _ _ _ h => h) (Or.inl ⟨by rfl, ?VU12y8⟩) hSVU120 ?VU12r8
                          case VU12y8 => first | (intro w hSw; (try dsimp only at hSw); go_simp; done) | (intro w hSw; (try dsimp only at hSw); go_simp; with_reducible rfl)
                          case' VU12r8 => try simp only [Act.put, List.setIfInBounds_toArray, List.set_cons_zero, List.set_cons_succ]
                          refine wpAnyE_takeS (i := 9) (v := ?VU12v9) rfl (by kernel_rfl) (by kernel_rfl) (by kernel_rfl) (by kernel_rfl) (by kernel_rfl) (fun _ _ _ h => h) (Or.inl ⟨by rfl, ?VU12y9⟩) hSVU120 ?VU12r9
                          case VU12y9 => first | (intro w hSw; (try dsimp only at hSw); go_simp; done) | (intro w hSw; (try dsimp only at hSw); go_simp; with_reducible rfl)
                          case' VU12r9 => try simp only [Act.put, List.setIfInBounds_toArray, List.set_cons_zero, List.set_cons_succ]
                          refine wpAnyE_takeS (i := 10) (v := ?VU12v10) rfl (by kernel_rfl) (by kernel_rfl) (by kernel_rfl) (by kernel_rfl) (by kernel_rfl) (fun _ _ _ h => h) (Or.inl ⟨by rfl, ?VU12y10⟩) hSVU120 ?VU12r10
                          case VU12y10 => first | (intro w hSw; (try dsimp only at hSw); go_simp; done) | (intro w hSw; (try dsimp only at hSw); go_simp; with_reducible rfl)
                          case' VU12r10 => try simp only [Act.put, List.setIfInBounds_toArray, List.set_cons_zero, List.set_cons_succ]
                          refine wpAnyE_one (k := 11) (by kernel_rfl) rfl (fun K hK => ?_)
                          go_simp
                          go_at_call 51
                          refine (with_any _ _ (some ⟨g1, o1, none⟩) M.length vc M (HM8.out.sl.ext HXVU12_0.out) hM j y hjM hy32).mono ?_
                          rintro e w9 ⟨hEVU121, A9, c9, rfl, ho9⟩
                          have HO9 := hid (ho9.lower HXVU12_0.out.size)
                          clear ho9
                          have HXVU12_1 := hid (HXVU12_0.out.trans hEVU121)
                          clear hEVU121
                          refine hK.out _ _ (fun _ => ext6 HC6.out HXVU12_1.out) ?_
                          clear hK K
                          try simp only [Act.put, List.setIfInBounds_toArray, List.set_cons_zero, List.set_cons_succ]
                          refine wpAnyE_one (k := 12) (by kernel_rfl) rfl (fun K hK => ?_)
                          go_simp
                          go_at_call 50
                          obtain ⟨VB, vm, vd, k2, r2, hg1, hg2, hcall⟩ := rtry_gen _ q (some ⟨g1, o1, none⟩) A9 M.length vc M.length c9 cl2 hc2 (M.set j y) HO9.out.sl
                          refine hcall.mono ?_
                          rintro e w10 ⟨hEVU122, rfl⟩
                          have HG1 := hid hg1
                          have HG2 := hid hg2
                          clear hg1 hg2 hcall
                          have HXVU12_2 := hid (HXVU12_1.out.trans hEVU122)
                          have HO9 := hid (HO9.out.ext hEVU122)
                          clear hEVU122
                          refine hK.out _ _ (fun _ => ext6 HC6.out HXVU12_2.out) ?_
                          clear hK K
                          try simp only [Act.put, List.setIfInBounds_toArray, List.set_cons_zero, List.set_cons_succ]
                          refine wpAnyE_takeS (i := 13) (v := ?VU12v13) rfl (by kernel_rfl) (by kernel_rfl) (by kernel_rfl) (by kernel_rfl) (by kernel_rfl) (fun _ _ _ h => h) (Or.inl ⟨by rfl, ?VU12y13⟩) (ext6 HC6.out HXVU12_2.out) ?VU12r13
                          case VU12y13 => first | (intro w hSw; (try dsimp only at hSw); go_simp; done) | (intro w hSw; (try dsimp only at hSw); go_simp; with_reducible rfl)
                          case' VU12r13 => try simp only [Act.put, List.setIfInBounds_toArray, List.set_cons_zero, List.set_cons_succ]
                          refine wpAnyE_takeS (i := 14) (v := ?VU12v14) rfl (by kernel_rfl) (by kernel_rfl) (by kernel_rfl) (by kernel_rfl) (by kernel_rfl) (fun _ _ _ h => h) (Or.inl ⟨by rfl, ?VU12y14⟩) (ext6 HC6.out HXVU12_2.out) ?VU12r14
                          case VU12y14 => first | (intro w hSw; (try dsimp only at hSw); go_simp; done) | (intro w hSw; (try dsimp only at hSw); go_simp; with_reducible rfl)
                          case' VU12r14 => try simp only [Act.put, List.setIfInBounds_toArray, List.set_cons_zero, List.set_cons_succ]
                          refine wpAnyE_takeP (i := 15) (v := ?VU12v15) rfl (by kernel_rfl) (by kernel_rfl) (by kernel_rfl) (by decide) (fun _ _ _ h => h) (Or.inl ⟨by rfl, ?VU12y15⟩) (ext6 HC6.out HXVU12_2.out) ?VU12r15
                          case VU12y15 => first | (intro w hSw; (try dsimp only at hSw); go_simp; done) | (intro w hSw; (try dsimp only at hSw); go_simp; with_reducible rfl)
                          case' VU12r15 => try simp only [Act.put, List.setIfInBounds_toArray, List.set_cons_zero, List.set_cons_succ]
                          refine wpAnyE_one (k := 16) (by kernel_rfl) rfl (fun K hK => ?_)
                          have z0 := HM8.out.x0
                          have HM9 := hid (HM8.out.ext2 HXVU12_2.out)
                          have HS9 := hid (HS8.out.ext2 HXVU12_2.out)
                          clear y0 y1 z0
                          have y0 := HM9.out.x0
                          have y1 := HM9.out.x1
                          have fx0 := HM9.out.fx 0
                          have fx1 := HM9.out.fx 1
                          go_simp
                          have HXend := HXVU12_2
                          refine hK.out _ _ (fun h => absurd (show true = false from h) (by simp)) ?_
                          clear hK K
                          try simp only [Act.put, List.setIfInBounds_toArray, List.set_cons_zero, List.set_cons_succ]
                          refine wpAnyE_done (by kernel_rfl) ?_ _
                          have hbw := HBW.out
                          go_wp2
                          rcases Nat.lt_or_ge cl2 1000 with hc9 | hc9
                          · obtain ⟨rfl, hp9, hv1, hv2⟩ := HG2.out hc9
                            have hp9' : P (M.set j (x / 2)) = r2 := by rw [HYY.out, ← HP.out]; exact hp9
                            cases r2 with
                            | true =>
                              obtain ⟨rfl, rfl, rfl⟩ := hv1 rfl
                              have HSL2 := hid (HO9.out.num_sl (S := fun d => d ≠ b ∧ d ≠ b + 1 + 1) (fun d hd => ⟨by omega, by omega⟩))
                              have hsl3 := HSL2.out
                              have hlen : M.length = (M.set j y).length := by rw [List.length_set]
                              rw [hlen] at hsl3
                              have HPP := HM9.out.put (cl2 + 1) hsl3
                              have HPQ := HPP
                              rw [List.length_set] at HPQ
                              first
                                | go_roundw
                                | refine ⟨?rel, ?measure⟩
                              case rel => exact ⟨j + 1, VB, vd, M.set j y, cl2 + 1, by go_num, by omega, by omega, by rw [List.length_set]; exact hM, hid (by rw [List.length_set]; exact HNM.out), hid HPQ, hid (HS9.out.put _ _), hid (HNX.out _ _ ((redK_half HX.out hx0 HR.out hx1 (by have := HCL2.out; omega) hp9').trans (by rw [HYY.out]; have := HCL2.out; congr 1; omega)))⟩
                              case measure => simp [intOf]; omega
                            | false =>
                              obtain ⟨rfl, rfl, rfl⟩ := hv2 rfl
                              have HPP := HM9.out.put (cl2 + 1) HM9.out.sl
                              first
                                | go_roundw
                                | refine ⟨?rel, ?measure⟩
                              case rel => exact ⟨j + 1, _, vd, M, cl2 + 1, by go_num, by omega, by omega, hM, HNM, hid HPP, hid (HS9.out.put _ _), hid (HNX.out _ _ ((redK_miss HX.out hx0 HR.out hx1 (by have := HCL2.out; omega) hp9').trans (by have := HCL2.out; congr 1; omega)))⟩
                              case measure => simp [intOf]; omega
                          · obtain ⟨rfl, rfl, rfl, rfl, rfl⟩ := HG1.out (by omega)
                            have HPP := HM9.out.put 1000 HM9.out.sl
                            first
                              | go_roundw
                              | refine ⟨?rel, ?measure⟩
                            case rel => exact ⟨j + 1, _, vd, M, 1000, by go_num, by omega, by omega, hM, HNM, hid HPP, hid (HS9.out.put _ _), hid (HNX.out _ _ (redK_out HX.out hx0 HR.out hx1 (by have := HCL2.out; omega)))⟩
                            case measure => simp [intOf]; omega
              case' U1b10x6 =>
                go_simp
                obtain ⟨wZ, aZ, hA, hsz, hEU11, hge, hob⟩ := extAlloc HXU1_0.out (.cells #[.slice none 0 0, .int .i64 0] 76)
                refine Eq.mpr (congrArg (K _) hA) ?_
                first | rw [hsz] | (have hq : wr.heap.size = aZ := hsz; rw [hq]; clear hq) | skip
                have HZB := hid (show ZB wr.heap.size aZ wZ from ⟨hob, hge⟩)
                clear hA hsz hge hob
                have HXU1_1 := hid (HXU1_0.out.trans hEU11)
                clear hEU11
                refine hK.out _ _ (ext5 HC5.out HXU1_1.out) (fun hSU11 => ?_)
                clear hK K
                try simp only [Act.put, List.setIfInBounds_toArray, List.set_cons_zero, List.set_cons_succ]
                refine wpAnyH_ready (rs := [5]) (by kernel_rfl) (by simp) ?_
                refine (AllReadyH.consL rfl (fun K hK => ?U1b5x20) AllReadyH.nil)
                case' U1b5x20 =>
                  go_simp
                  go_at_call 51
                  refine (with_any _ _ (some ⟨g1, o1, none⟩) M.length c1 M (HM.out.sl.ext HXU1_1.out) hM j 0 hjM (by omega)).mono ?_
                  rintro e w5 ⟨hEU12, A5, c5, rfl, ho5⟩
                  have HO5 := hid (ho5.lower HXU1_1.out.size)
                  clear ho5
                  have HXU1_2 := hid (HXU1_1.out.trans hEU12)
                  have HZB := hid (HZB.out.ext hEU12)
                  clear hEU12
                  refine hK.out _ _ (ext5 HC5.out HXU1_2.out) (fun hSU12 => ?_)
                  clear hK K
                  try simp only [Act.put, List.setIfInBounds_toArray, List.set_cons_zero, List.set_cons_succ]
                  refine wpAnyH_ready (rs := [6]) (by kernel_rfl) (by simp) ?_
                  refine (AllReadyH.consL rfl (fun K hK => ?U1b6x21) AllReadyH.nil)
                  case' U1b6x21 =>
                    go_simp
                    go_at_call 50
                    refine (rtry_in _ q (some ⟨g1, o1, none⟩) A5 M.length c1 M.length c5 cl hcl0 (M.set j 0) HO5.out.sl r (by rw [HP.out]; exact HR.out)).mono ?_
                    rintro e w6 ⟨hEU13, rfl⟩
                    obtain ⟨VA, vn, vc, hV, hV1, hV2⟩ := pick_sl r A5 M.length c5 (some ⟨g1, o1, none⟩) M.length c1
                    rw [hV]
                    have HV1 := hid hV1
                    have HV2 := hid hV2
                    clear hV hV1 hV2
                    have HXU1_3 := hid (HXU1_2.out.trans hEU13)
                    have HZB := hid (HZB.out.ext hEU13)
                    have HO5 := hid (HO5.out.ext hEU13)
                    clear hEU13
                    refine hK.out _ _ (ext5 HC5.out HXU1_3.out) (fun hSU13 => ?_)
                    clear hK K
                    try simp only [Act.put, List.setIfInBounds_toArray, List.set_cons_zero, List.set_cons_succ]
                    refine wpAnyH_takeL (i := 7) (v := ?U1v7x22) rfl (by kernel_rfl) (by kernel_rfl) (by kernel_rfl) (fun _ _ _ h => h) (Or.inl ⟨by rfl, ?U1y7x22⟩) (by assumption) ?U1r7x22
                    case U1y7x22 => first | (intro w hSw; (try dsimp only at hSw); go_simp; done) | (intro w hSw; (try dsimp only at hSw); go_simp; with_reducible rfl)
                    case' U1r7x22 => try simp only [Act.put, List.setIfInBounds_toArray, List.set_cons_zero, List.set_cons_succ]
                    refine wpAnyH_takeL (i := 8) (v := ?U1v8x23) rfl (by kernel_rfl) (by kernel_rfl) (by kernel_rfl) (fun _ _ _ h => h) (Or.inl ⟨by rfl, ?U1y8x23⟩) (by assumption) ?U1r8x23
                    case U1y8x23 => first | (intro w hSw; (try dsimp only at hSw); go_simp; done) | (intro w hSw; (try dsimp only at hSw); go_simp; with_reducible rfl)
                    case' U1r8x23 => try simp only [Act.put, List.setIfInBounds_toArray, List.set_cons_zero, List.set_cons_succ]
                    refine wpAnyH_takeL (i := 9) (v := ?U1v9x24) rfl (by kernel_rfl) (by kernel_rfl) (by kernel_rfl) (fun _ _ _ h => h) (Or.inl ⟨by rfl, ?U1y9x24⟩) (by assumption) ?U1r9x24
                    case U1y9x24 => first | (intro w hSw; (try dsimp only at hSw); go_simp; done) | (intro w hSw; (try dsimp only at hSw); go_simp; with_reducible rfl)
                    case' U1r9x24 => try simp only [Act.put, List.setIfInBounds_toArray, List.set_cons_zero, List.set_cons_succ]
                    refine wpAnyH_ready (rs := [11]) (by kernel_rfl) (by simp) ?_
                    refine (AllReadyH.consL rfl (fun K hK => ?U1b11x25) AllReadyH.nil)
                    case' U1b11x25 =>
                      have HXend := HXU1_3
                      have z0 := HZB.out.c0
                      have z1 := HZB.out.c1
                      have zf0 := HZB.out.fr 0
                      have zf1 := HZB.out.fr 1
                      go_simp
                      refine hK.out _ _ (ext5 HC5.out ((HXU1_3.out.setCell HZB.out.ge _).setCell HZB.out.ge _)) (fun hSU14 => ?_)
                      clear hK K
                      try simp only [Act.put, List.setIfInBounds_toArray, List.set_cons_zero, List.set_cons_succ]
                      refine wpAnyH_takeL (i := 12) (v := ?U1v12x26) rfl (by kernel_rfl) (by kernel_rfl) (by kernel_rfl) (fun _ _ _ h => h) (Or.inl ⟨by rfl, ?U1y12x26⟩) (by assumption) ?U1r12x26
                      case U1y12x26 => first | (intro w hSw; (try dsimp only at hSw); go_simp; done) | (intro w hSw; (try dsimp only at hSw); go_simp; with_reducible rfl)
                      case' U1r12x26 => try simp only [Act.put, List.setIfInBounds_toArray, List.set_cons_zero, List.set_cons_succ]
                      refine wpAnyH_done (by kernel_rfl) ?_ _
                      have HX3 := HXend
                      obtain ⟨W7, hW7, hE7, t0, t1, ho7⟩ := putZ HXend.out HZB.out (Nat.le_refl _) HO5.out (.slice VA vn vc) (.int .i64 ((cl : Int) + 1))
                      rw [hW7]
                      have hge := HZB.out.ge
                      have hbr : b < wr.heap.size := by have := World.block_lt_of_cell? _ _ HM.out.x0; exact this
                      have hbZ : b < aZ := by omega
                      have HM7 := hid (HM.out.ext2 hE7)
                      have HS7 := hid (HS.out.ext2 hE7)
                      have hbr2 : b + 1 + 1 < wr.heap.size := by have := World.block_lt_of_cell? _ _ HS.out.r0; exact this
                      have HSL := hid (ho7.num_sl (S := fun d => d ≠ b ∧ d ≠ b + 1 + 1) (fun d hd => ⟨by omega, by omega⟩))
                      have y0 := HM7.out.x0
                      have y1 := HM7.out.x1
                      have fx0 := HM7.out.fx 0
                      have fx1 := HM7.out.fx 1
                      clear hW7 hE7 ho7 hge x0 x1 q0 q1 q2
                      cases r with
                      | true =>
                        obtain ⟨rfl, rfl, rfl⟩ := HV1.out rfl
                        have HSL3 : Hid (Sl u32R W7 (fun d => d ≠ b ∧ d ≠ b + 1 + 1) (.slice VA (M.set j 0).length vc) (M.set j 0)) := hid (by rw [List.length_set]; exact HSL.out)
                        have HPP := HM7.out.put (cl + 1) HSL3.out
                        rw [List.length_set] at HPP
                        have HP7 := hid HPP
                        clear HPP
                        go_wp2
                        first
                          | go_roundw
                          | refine ⟨?rel, ?measure⟩
                        case rel => exact ⟨j + 1, VA, vc, M.set j 0, cl + 1, by go_num, by omega, by omega, by rw [List.length_set]; exact hM, hid (by rw [List.length_set]; exact HNM.out), hid HP7.out, hid (HS7.out.put _ _), hid (HNX.out _ _ ((redK_hit HX.out hx0 HR.out).trans (by congr 1)))⟩
                        case measure => simp [intOf]; omega
                      | false =>
                        obtain ⟨rfl, rfl, rfl⟩ := HV2.out rfl
                        obtain ⟨W8, hW8, hm8, hs8⟩ : ∃ W8, ((W7.setCell ⟨b, 0, none⟩ (.slice (some ⟨g1, o1, none⟩) M.length vc)).setCell ⟨b, 1, none⟩ (.int .i64 ((cl : Int) + 1))) = W8 ∧ RM b w W8 (some ⟨g1, o1, none⟩) vc M (cl + 1) ∧ RS b q W8 := ⟨_, rfl, HM7.out.put (cl + 1) HM7.out.sl, HS7.out.put _ _⟩
                        go_upto_region 13 with (fail)
                        try rw [hW8]
                        obtain ⟨cl2, hcl2⟩ : ∃ cl2, cl + 1 = cl2 := ⟨_, rfl⟩
                        rw [hcl2] at hm8
                        have HCL2 := hid hcl2
                        have HM8 := hid hm8
                        have HS8 := hid hs8
                        have hc2 : cl2 ≤ 1000 := by omega
                        clear hcl2 hm8 hs8 hW8 y0 y1 fx0 fx1 t0 t1
                        have y0 := HM8.out.x0
                        have y1 := HM8.out.x1
                        obtain ⟨g1', o1', hA, cx8, -⟩ := HM8.out.sl.num_at HX.out
                        cases hA
                        by_cases hx1 : x ≤ 1
                        · have hx1' : ¬ ((x : Int) > 1) := by omega
                          go_wp2
                          first
                            | go_roundw
                            | refine ⟨?rel, ?measure⟩
                          case rel => exact ⟨j + 1, _, vc, M, cl2, by go_num, by omega, hc2, hM, HNM, HM8, HS8, hid (HNX.out _ _ ((redK_one HX.out hx0 HR.out hx1).trans (by have := HCL2.out; congr 1; omega)))⟩
                          case measure => simp [intOf]; omega
                        · have hx1' : (x : Int) > 1 := by omega
                          obtain ⟨y, hy⟩ : ∃ y, x / 2 = y := ⟨_, rfl⟩
                          have HYY := hid hy
                          have hy32 : y < 4294967296 := by omega
                          have hq1 : (x : Int).tdiv 2 = (y : Int) := by rw [Int.tdiv_eq_ediv_of_nonneg (by omega)]; omega
                          have hq2 : IntKind.u32.wrap (y : Int) = (y : Int) := IntWalk.u32_in _ (by omega)
                          have hq3 : (x : Int) / 2 = (y : Int) := by omega
                          have q0 := HS8.out.q0
                          have q1 := HS8.out.q1
                          have q2 := HS8.out.q2
                          have HC6 := hid (And.intro y0 (And.intro y1 (And.intro q0 (And.intro q1 (And.intro q2 cx8)))))
                          have HBW := hid (show b + 1 + 1 < W8.heap.size by have := World.block_lt_of_cell? _ _ HS8.out.r0; exact this)
                          clear hy
                          go_wp2_with fail
                          have HXVU13_0 := hid ((Ext.refl W8).drew)
                          refine wp_region_last 16 (fun w' => w'.cell? ⟨b, 0, none⟩ = some (.slice (some ⟨g1, o1, none⟩) M.length vc) ∧ w'.cell? ⟨b, 1, none⟩ = some (.int .i64 cl2) ∧ w'.cell? ⟨b + 1, 0, none⟩ = some (.int .u32 q.least) ∧ w'.cell? ⟨b + 1, 1, none⟩ = some (.int .i64 q.count) ∧ w'.cell? ⟨b + 1, 2, none⟩ = some (.bool q.pair) ∧ w'.cell? ⟨g1, o1 + j, none⟩ = some (.int .u32 x)) (by kernel_rfl) ⟨y0, y1, q0, q1, q2, cx8⟩ (fun hSVU130 => ?_)
                          refine wpAnyE_takeS (i := 0) (v := ?VU13v0) rfl (by kernel_rfl) (by kernel_rfl) (by kernel_rfl) (by kernel_rfl) (by kernel_rfl) (fun _ _ _ h => h) (Or.inl ⟨by rfl, ?VU13y0⟩) hSVU130 ?VU13r0
                          case VU13y0 => first | (intro w hSw; (try dsimp only at hSw); go_simp; done) | (intro w hSw; (try dsimp only at hSw); go_simp; with_reducible rfl)
                          case' VU13r0 => try simp only [Act.put, List.setIfInBounds_toArray, List.set_cons_zero, List.set_cons_succ]
                          refine wpAnyE_takeS (i := 1) (v := ?VU13v1) rfl (by kernel_rfl) (by kernel_rfl) (by kernel_rfl) (by kernel_rfl) (by kernel_rfl) (fun _ _ _ h => h) (Or.inl ⟨by rfl, ?VU13y1⟩) hSVU130 ?VU13r1
                          case VU13y1 => first | (intro w hSw; (try dsimp only at hSw); go_simp; done) | (intro w hSw; (try dsimp only at hSw); go_simp; with_reducible rfl)
                          case' VU13r1 => try simp only [Act.put, List.setIfInBounds_toArray, List.set_cons_zero, List.set_cons_succ]
                          refine wpAnyE_takeS (i := 2) (v := ?VU13v2) rfl (by kernel_rfl) (by kernel_rfl) (by kernel_rfl) (by kernel_rfl) (by kernel_rfl) (fun _ _ _ h => h) (Or.inl ⟨by rfl, ?VU13y2⟩) hSVU130 ?VU13r2
                          case VU13y2 => first | (intro w hSw; (try dsimp only at hSw); go_simp; done) | (intro w hSw; (try dsimp only at hSw); go_simp; with_reducible rfl)
                          case' VU13r2 => try simp only [Act.put, List.setIfInBounds_toArray, List.set_cons_zero, List.set_cons_succ]
                          refine wpAnyE_takeS (i := 3) (v := ?VU13v3) rfl (by kernel_rfl) (by kernel_rfl) (by kernel_rfl) (by kernel_rfl) (by kernel_rfl) (fun _ _ _ h => h) (Or.inl ⟨by rfl, ?VU13y3⟩) hSVU130 ?VU13r3
                          case VU13y3 => first | (intro w hSw; (try dsimp only at hSw); go_simp; done) | (intro w hSw; (try dsimp only at hSw); go_simp; with_reducible rfl)
                          case' VU13r3 => try simp only [Act.put, List.setIfInBounds_toArray, List.set_cons_zero, List.set_cons_succ]
                          refine wpAnyE_takeS (i := 4) (v := ?VU13v4) rfl (by kernel_rfl) (by kernel_rfl) (by kernel_rfl) (by kernel_rfl) (by kernel_rfl) (fun _ _ _ h => h) (Or.inl ⟨by rfl, ?VU13y4⟩) hSVU130 ?VU13r4
                          case VU13y4 => first | (intro w hSw; (try dsimp only at hSw); go_simp; done) | (intro w hSw; (try dsimp only at hSw); go_simp; with_reducible rfl)
                          case' VU13r4 => try simp only [Act.put, List.setIfInBounds_toArray, List.set_cons_zero, List.set_cons_succ]
                          refine wpAnyE_takeS (i := 5) (v := ?VU13v5) rfl (by kernel_rfl) (by kernel_rfl) (by kernel_rfl) (by kernel_rfl) (by kernel_rfl) (fun _ _ _ h => h) (Or.inl ⟨by rfl, ?VU13y5⟩) hSVU130 ?VU13r5
                          case VU13y5 => first | (intro w hSw; (try dsimp only at hSw); go_simp; done) | (intro w hSw; (try dsimp only at hSw); go_simp; with_reducible rfl)
                          case' VU13r5 => try simp only [Act.put, List.setIfInBounds_toArray, List.set_cons_zero, List.set_cons_succ]
                          refine wpAnyE_takeS (i := 6) (v := ?VU13v6) rfl (by kernel_rfl) (by kernel_rfl) (by kernel_rfl) (by kernel_rfl) (by kernel_rfl) (fun _ _ _ h => h) (Or.inl ⟨by rfl, ?VU13y6⟩) hSVU130 ?VU13r6
                          case VU13y6 => first | (intro w hSw; (try dsimp only at hSw); go_simp; done) | (intro w hSw; (try dsimp only at hSw); go_simp; with_reducible rfl)
                          case' VU13r6 => try simp only [Act.put, List.setIfInBounds_toArray, List.set_cons_zero, List.set_cons_succ]
                          refine wpAnyE_takeS (i := 7) (v := ?VU13v7) rfl (by kernel_rfl) (by kernel_rfl) (by kernel_rfl) (by kernel_rfl) (by kernel_rfl) (fun _ _ _ h => h) (Or.inl ⟨by rfl, ?VU13y7⟩) hSVU130 ?VU13r7
                          case VU13y7 => first | (intro w hSw; (try dsimp only at hSw); go_simp; done) | (intro w hSw; (try dsimp only at hSw); go_simp; with_reducible rfl)
                          case' VU13r7 => try simp only [Act.put, List.setIfInBounds_toArray, List.set_cons_zero, List.set_cons_succ]
                          refine wpAnyE_takeS (i := 8) (v := ?VU13v8) rfl (by kernel_rfl) (by kernel_rfl) (by kernel_rfl) (by kernel_rfl) (by kernel_rfl) (fun _ _ _ h => h) (Or.inl ⟨by rfl, ?VU13y8⟩) hSVU130 ?VU13r8
                          case VU13y8 => first | (intro w hSw; (try dsimp only at hSw); go_simp; done) | (intro w hSw; (try dsimp only at hSw); go_simp; with_reducible rfl)
                          case' VU13r8 => try simp only [Act.put, List.setIfInBounds_toArray, List.set_cons_zero, List.set_cons_succ]
                          refine wpAnyE_takeS (i := 9) (v := ?VU13v9) rfl (by kernel_rfl) (by kernel_rfl) (by kernel_rfl) (by kernel_rfl) (by kernel_rfl) (fun _ _ _ h => h) (Or.inl ⟨by rfl, ?VU13y9⟩) hSVU130 ?VU13r9
                          case VU13y9 => first | (intro w hSw; (try dsimp only at hSw); go_simp; done) | (intro w hSw; (try dsimp only at hSw); go_simp; with_reducible rfl)
                          case' VU13r9 => try simp only [Act.put, List.setIfInBounds_toArray, List.set_cons_zero, List.set_cons_succ]
                          refine wpAnyE_takeS (i := 10) (v := ?VU13v10) rfl (by kernel_rfl) (by kernel_rfl) (by kernel_rfl) (by kernel_rfl) (by kernel_rfl) (fun _ _ _ h => h) (Or.inl ⟨by rfl, ?VU13y10⟩) hSVU130 ?VU13r10
                          case VU13y10 => first | (intro w hSw; (try dsimp only at hSw); go_simp; done) | (intro w hSw; (try dsimp only at hSw); go_simp; with_reducible rfl)
                          case' VU13r10 => try simp only [Act.put, List.setIfInBounds_toArray, List.set_cons_zero, List.set_cons_succ]
                          refine wpAnyE_one (k := 11) (by kernel_rfl) rfl (fun K hK => ?_)
                          go_simp
                          go_at_call 51
                          refine (with_any _ _ (some ⟨g1, o1, none⟩) M.length vc M (HM8.out.sl.ext HXVU13_0.out) hM j y hjM hy32).mono ?_
                          rintro e w9 ⟨hEVU131, A9, c9, rfl, ho9⟩
                          have HO9 := hid (ho9.lower HXVU13_0.out.size)
                          clear ho9
                          have HXVU13_1 := hid (HXVU13_0.out.trans hEVU131)
                          clear hEVU131
                          refine hK.out _ _ (fun _ => ext6 HC6.out HXVU13_1.out) ?_
                          clear hK K
                          try simp only [Act.put, List.setIfInBounds_toArray, List.set_cons_zero, List.set_cons_succ]
                          refine wpAnyE_one (k := 12) (by kernel_rfl) rfl (fun K hK => ?_)
                          go_simp
                          go_at_call 50
                          obtain ⟨VB, vm, vd, k2, r2, hg1, hg2, hcall⟩ := rtry_gen _ q (some ⟨g1, o1, none⟩) A9 M.length vc M.length c9 cl2 hc2 (M.set j y) HO9.out.sl
                          refine hcall.mono ?_
                          rintro e w10 ⟨hEVU132, rfl⟩
                          have HG1 := hid hg1
                          have HG2 := hid hg2
                          clear hg1 hg2 hcall
                          have HXVU13_2 := hid (HXVU13_1.out.trans hEVU132)
                          have HO9 := hid (HO9.out.ext hEVU132)
                          clear hEVU132
                          refine hK.out _ _ (fun _ => ext6 HC6.out HXVU13_2.out) ?_
                          clear hK K
                          try simp only [Act.put, List.setIfInBounds_toArray, List.set_cons_zero, List.set_cons_succ]
                          refine wpAnyE_takeS (i := 13) (v := ?VU13v13) rfl (by kernel_rfl) (by kernel_rfl) (by kernel_rfl) (by kernel_rfl) (by kernel_rfl) (fun _ _ _ h => h) (Or.inl ⟨by rfl, ?VU13y13⟩) (ext6 HC6.out HXVU13_2.out) ?VU13r13
                          case VU13y13 => first | (intro w hSw; (try dsimp only at hSw); go_simp; done) | (intro w hSw; (try dsimp only at hSw); go_simp; with_reducible rfl)
                          case' VU13r13 => try simp only [Act.put, List.setIfInBounds_toArray, List.set_cons_zero, List.set_cons_succ]
                          refine wpAnyE_takeS (i := 14) (v := ?VU13v14) rfl (by kernel_rfl) (by kernel_rfl) (by kernel_rfl) (by kernel_rfl) (by kernel_rfl) (fun _ _ _ h => h) (Or.inl ⟨by rfl, ?VU13y14⟩) (ext6 HC6.out HXVU13_2.out) ?VU13r14
                          case VU13y14 => first | (intro w hSw; (try dsimp only at hSw); go_simp; done) | (intro w hSw; (try dsimp only at hSw); go_simp; with_reducible rfl)
                          case' VU13r14 => try simp only [Act.put, List.setIfInBounds_toArray, List.set_cons_zero, List.set_cons_succ]
                          refine wpAnyE_takeP (i := 15) (v := ?VU13v15) rfl (by kernel_rfl) (by kernel_rfl) (by kernel_rfl) (by decide) (fun _ _ _ h => h) (Or.inl ⟨by rfl, ?VU13y15⟩) (ext6 HC6.out HXVU13_2.out) ?VU13r15
                          case VU13y15 => first | (intro w hSw; (try dsimp only at hSw); go_simp; done) | (intro w hSw; (try dsimp only at hSw); go_simp; with_reducible rfl)
                          case' VU13r15 => try simp only [Act.put, List.setIfInBounds_toArray, List.set_cons_zero, List.set_cons_succ]
                          refine wpAnyE_one (k := 16) (by kernel_rfl) rfl (fun K hK => ?_)
                          have z0 := HM8.out.x0
                          have HM9 := hid (HM8.out.ext2 HXVU13_2.out)
                          have HS9 := hid (HS8.out.ext2 HXVU13_2.out)
                          clear y0 y1 z0
                          have y0 := HM9.out.x0
                          have y1 := HM9.out.x1
                          have fx0 := HM9.out.fx 0
                          have fx1 := HM9.out.fx 1
                          go_simp
                          have HXend := HXVU13_2
                          refine hK.out _ _ (fun h => absurd (show true = false from h) (by simp)) ?_
                          clear hK K
                          try simp only [Act.put, List.setIfInBounds_toArray, List.set_cons_zero, List.set_cons_succ]
                          refine wpAnyE_done (by kernel_rfl) ?_ _
                          have hbw := HBW.out
                          go_wp2
                          rcases Nat.lt_or_ge cl2 1000 with hc9 | hc9
                          · obtain ⟨rfl, hp9, hv1, hv2⟩ := HG2.out hc9
                            have hp9' : P (M.set j (x / 2)) = r2 := by rw [HYY.out, ← HP.out]; exact hp9
                            cases r2 with
                            | true =>
                              obtain ⟨rfl, rfl, rfl⟩ := hv1 rfl
                              have HSL2 := hid (HO9.out.num_sl (S := fun d => d ≠ b ∧ d ≠ b + 1 + 1) (fun d hd => ⟨by omega, by omega⟩))
                              have hsl3 := HSL2.out
                              have hlen : M.length = (M.set j y).length := by rw [List.length_set]
                              rw [hlen] at hsl3
                              have HPP := HM9.out.put (cl2 + 1) hsl3
                              have HPQ := HPP
                              rw [List.length_set] at HPQ
                              first
                                | go_roundw
                                | refine ⟨?rel, ?measure⟩
                              case rel => exact ⟨j + 1, VB, vd, M.set j y, cl2 + 1, by go_num, by omega, by omega, by rw [List.length_set]; exact hM, hid (by rw [List.length_set]; exact HNM.out), hid HPQ, hid (HS9.out.put _ _), hid (HNX.out _ _ ((redK_half HX.out hx0 HR.out hx1 (by have := HCL2.out; omega) hp9').trans (by rw [HYY.out]; have := HCL2.out; congr 1; omega)))⟩
                              case measure => simp [intOf]; omega
                            | false =>
                              obtain ⟨rfl, rfl, rfl⟩ := hv2 rfl
                              have HPP := HM9.out.put (cl2 + 1) HM9.out.sl
                              first
                                | go_roundw
                                | refine ⟨?rel, ?measure⟩
                              case rel => exact ⟨j + 1, _, vd, M, cl2 + 1, by go_num, by omega, by omega, hM, HNM, hid HPP, hid (HS9.out.put _ _), hid (HNX.out _ _ ((redK_miss HX.out hx0 HR.out hx1 (by have := HCL2.out; omega) hp9').trans (by have := HCL2.out; congr 1; omega)))⟩
                              case measure => simp [intOf]; omega
                          · obtain ⟨rfl, rfl, rfl, rfl, rfl⟩ := HG1.out (by omega)
                            have HPP := HM9.out.put 1000 HM9.out.sl
                            first
                              | go_roundw
                              | refine ⟨?rel, ?measure⟩
                            case rel => exact ⟨j + 1, _, vd, M, 1000, by go_num, by omega, by omega, hM, HNM, hid HPP, hid (HS9.out.put _ _), hid (HNX.out _ _ (redK_out HX.out hx0 HR.out hx1 (by have := HCL2.out; omega)))⟩
                            case measure => simp [intOf]; omega
          · have hend : redM P (N - j) M (1000 - cl) j = (M, 1000 - cl) := by
              rcases Nat.lt_or_ge cl 1000 with h | h
              · rw [show N - j = 0 by omega, redM]
              · rw [show 1000 - cl = 0 by omega]; exact redM_end
            have hTe : T = (M, 1000 - cl) := HD.out.symm.trans hend
            subst hTe
            have HCL3 := hid (show ((1000 - (1000 - cl) : Nat) : Int) = (cl : Int) by omega)
            have HSW := hid ((HM.out.sl.keep (w' := (wr.setCell ⟨b + 1 + 1, 0, none⟩ (.slice A1 M.length c1)).setCell ⟨b + 1 + 1, 1, none⟩ (.int .i64 (cl : Nat))) (fun d hd _ => by rw [Below.heap_setCell _ _ _ d hd.2, Below.heap_setCell _ _ _ d hd.2])).all)
            have r0 := HS.out.r0
            have r1 := HS.out.r1
            have fr0 := HS.out.fr 0
            have fr1 := HS.out.fr 1
            have hor : (¬ j < M.length) ∨ (j < M.length ∧ cl = 1000) := by omega
            have HSF := HM
            clear hend hMN hkk
            have HBB := hid HM.out.base
            have HBR := hid (show w.heap.size ≤ b + 1 + 1 by have := HM.out.base; omega)
            rcases hor with h | ⟨h, hc⟩
            case inl =>
              go_wp2
              refine bodyPost_ret (v := .agg #[.slice A1 M.length c1, .int .i64 (cl : Nat)]) (by simp [results, Try.results42, go_sem, World.cell?_setCell_same, World.cell?_setCell_other, r0, r1]) rfl ?_
              refine ⟨(HSF.out.ext.setCell HBR.out _).setCell HBR.out _, A1, c1, ?_, HSW.out⟩
              show _ = Ending.returned (.agg #[.slice A1 M.length c1, .int .i64 ((1000 - (1000 - cl) : Nat) : Int)])
              rw [HCL3.out]
            case inr =>
              have hc' : ¬ ((cl : Int) < 1000) := by omega
              clear hc
              go_wp2
              refine bodyPost_ret (v := .agg #[.slice A1 M.length c1, .int .i64 (cl : Nat)]) (by simp [results, Try.results42, go_sem, World.cell?_setCell_same, World.cell?_setCell_other, r0, r1]) rfl ?_
              refine ⟨(HSF.out.ext.setCell HBR.out _).setCell HBR.out _, A1, c1, ?_, HSW.out⟩
              show _ = Ending.returned (.agg #[.slice A1 M.length c1, .int .i64 ((1000 - (1000 - cl) : Nat) : Int)])
              rw [HCL3.out]
      ·
        go_wp2_with fail
        clear x0 x1 hjj hkk
        obtain ⟨N, hN⟩ : ∃ N, M.length = N := ⟨_, rfl⟩
        have HNM := hid hN
        rw [hN] at HRD
        clear hN
        go_loopw [8] (fun i wr => ∃ (j : Nat) (A : Option Addr) (c : Nat) (M : List Nat) (cl : Nat), i = .int .i64 j ∧ j ≤ N ∧ cl ≤ 1000 ∧ M.length ≤ 1000 ∧ Hid (M.length = N) ∧ Hid (RM b w wr A c M cl) ∧ Hid (RS b q wr) ∧ Hid (redM P (N - j) M (1000 - cl) j = T)) (fun i _ => N - (intOf i).toNat)
        case atStart => exact ⟨0, A1, c1, M, _, rfl, by omega, by omega, hM, HNM, HM, HS, HRD⟩
        case round =>
          obtain ⟨j, A1, c1, M, cl, rfl, hj, hcl, hM, HNM, HM, HS, HD⟩ := hrel
          have x0 := HM.out.x0
          have x1 := HM.out.x1
          have hMN := HNM.out
          by_cases hkk : j < N ∧ cl < 1000
          · obtain ⟨hjN, hcl0⟩ := hkk
            have hjM : j < M.length := by omega
            obtain ⟨x, hx⟩ : ∃ x, M[j]? = some x := ⟨_, List.getElem?_eq_getElem hjM⟩
            obtain ⟨g1, o1, rfl, cx, hx32⟩ := HM.out.sl.num_at hx
            have HX := hid hx
            have HNX := hid (show ∀ M' l', redK P M (1000 - cl) j = (M', l') → redM P (N - (j + 1)) M' l' (j + 1) = T by
              intro M' l' h
              rw [← HD.out, show N - j = (N - (j + 1)) + 1 by omega, redM_step (by omega), h])
            have hcap := HM.out.sl.cap
            obtain ⟨hcap1, hcap2⟩ := hcap
            clear hx hMN
            by_cases hx0 : x = 0
            · subst hx0
              have HN5 := hid (HNX.out _ _ (redK_zero HX.out))
              go_wp2
              first
                | go_roundw
                | refine ⟨?rel, ?measure⟩
              case rel => exact ⟨j + 1, _, c1, M, cl, by go_num, by omega, hcl, hM, HNM, HM, HS, HN5⟩
              case measure => simp [intOf]; omega
            · have hx0' : ((x : Int) == 0) = false := by simp; omega
              obtain ⟨r, hr⟩ : ∃ r, P (M.set j 0) = r := ⟨_, rfl⟩
              have HR := hid hr
              have q0 := HS.out.q0
              have q1 := HS.out.q1
              have q2 := HS.out.q2
              have HC5 := hid (And.intro x0 (And.intro x1 (And.intro q0 (And.intro q1 q2))))
              clear hr
              go_wp2_with fail
              have HXU2_0 := hid ((Ext.refl wr).drew)
              refine wp_region_held_drew (S := (fun w' => w'.cell? ⟨b, 0, none⟩ = some (.slice (some ⟨g1, o1, none⟩) M.length c1) ∧ w'.cell? ⟨b, 1, none⟩ = some (.int .i64 cl) ∧ w'.cell? ⟨b + 1, 0, none⟩ = some (.int .u32 q.least) ∧ w'.cell? ⟨b + 1, 1, none⟩ = some (.int .i64 q.count) ∧ w'.cell? ⟨b + 1, 2, none⟩ = some (.bool q.pair))) (by kernel_rfl) ⟨x0, x1, q0, q1, q2⟩ (fun hSU20 => ?_)
              refine wpAnyH_takeL (i := 0) (v := ?U2v0x1) rfl (by kernel_rfl) (by kernel_rfl) (by kernel_rfl) (fun _ _ _ h => h) (Or.inl ⟨by rfl, ?U2y0x1⟩) (by assumption) ?U2r0x1
              case U2y0x1 => first | (intro w hSw; (try dsimp only at hSw); go_simp; done) | (intro w hSw; (try dsimp only at hSw); go_simp; with_reducible rfl)
              case' U2r0x1 => try simp only [Act.put, List.setIfInBounds_toArray, List.set_cons_zero, List.set_cons_succ]
              refine wpAnyH_takeL (i := 1) (v := ?U2v1x2) rfl (by kernel_rfl) (by kernel_rfl) (by kernel_rfl) (fun _ _ _ h => h) (Or.inl ⟨by rfl, ?U2y1x2⟩) (by assumption) ?U2r1x2
              case U2y1x2 => first | (intro w hSw; (try dsimp only at hSw); go_simp; done) | (intro w hSw; (try dsimp only at hSw); go_simp; with_reducible rfl)
              case' U2r1x2 => try simp only [Act.put, List.setIfInBounds_toArray, List.set_cons_zero, List.set_cons_succ]
              refine wpAnyH_takeL (i := 2) (v := ?U2v2x3) rfl (by kernel_rfl) (by kernel_rfl) (by kernel_rfl) (fun _ _ _ h => h) (Or.inl ⟨by rfl, ?U2y2x3⟩) (by assumption) ?U2r2x3
              case U2y2x3 => first | (intro w hSw; (try dsimp only at hSw); go_simp; done) | (intro w hSw; (try dsimp only at hSw); go_simp; with_reducible rfl)
              case' U2r2x3 => try simp only [Act.put, List.setIfInBounds_toArray, List.set_cons_zero, List.set_cons_succ]
              refine wpAnyH_takeL (i := 3) (v := ?U2v3x4) rfl (by kernel_rfl) (by kernel_rfl) (by kernel_rfl) (fun _ _ _ h => h) (Or.inl ⟨by rfl, ?U2y3x4⟩) (by assumption) ?U2r3x4
              case U2y3x4 => first | (intro w hSw; (try dsimp only at hSw); go_simp; done) | (intro w hSw; (try dsimp only at hSw); go_simp; with_reducible rfl)
              case' U2r3x4 => try simp only [Act.put, List.setIfInBounds_toArray, List.set_cons_zero, List.set_cons_succ]
              refine wpAnyH_takeL (i := 4) (v := ?U2v4x5) rfl (by kernel_rfl) (by kernel_rfl) (by kernel_rfl) (fun _ _ _ h => h) (Or.inl ⟨by rfl, ?U2y4x5⟩) (by assumption) ?U2r4x5
              case U2y4x5 => first | (intro w hSw; (try dsimp only at hSw); go_simp; done) | (intro w hSw; (try dsimp only at hSw); go_simp; with_reducible rfl)
              case' U2r4x5 => try simp only [Act.put, List.setIfInBounds_toArray, List.set_cons_zero, List.set_cons_succ]
              refine wpAnyH_ready (rs := [5, 10]) (by kernel_rfl) (by simp) ?_
              refine (AllReadyH.consL rfl (fun K hK => ?U2b5x6) (AllReadyH.consL rfl (fun K hK => ?U2b10x6) AllReadyH.nil))
              case' U2b5x6 =>
                go_simp
                go_at_call 51
                refine (with_any _ _ (some ⟨g1, o1, none⟩) M.length c1 M (HM.out.sl.ext HXU2_0.out) hM j 0 hjM (by omega)).mono ?_
                rintro e w5 ⟨hEU21, A5, c5, rfl, ho5⟩
                have HO5 := hid (ho5.lower HXU2_0.out.size)
                clear ho5
                have HXU2_1 := hid (HXU2_0.out.trans hEU21)
                clear hEU21
                refine hK.out _ _ (ext5 HC5.out HXU2_1.out) (fun hSU21 => ?_)
                clear hK K
                try simp only [Act.put, List.setIfInBounds_toArray, List.set_cons_zero, List.set_cons_succ]
                refine wpAnyH_ready (rs := [6, 10]) (by kernel_rfl) (by simp) ?_
                refine (AllReadyH.consL rfl (fun K hK => ?U2b6x7) (AllReadyH.consL rfl (fun K hK => ?U2b10x7) AllReadyH.nil))
                case' U2b6x7 =>
                  go_simp
                  go_at_call 50
                  refine (rtry_in _ q (some ⟨g1, o1, none⟩) A5 M.length c1 M.length c5 cl hcl0 (M.set j 0) HO5.out.sl r (by rw [HP.out]; exact HR.out)).mono ?_
                  rintro e w6 ⟨hEU22, rfl⟩
                  obtain ⟨VA, vn, vc, hV, hV1, hV2⟩ := pick_sl r A5 M.length c5 (some ⟨g1, o1, none⟩) M.length c1
                  rw [hV]
                  have HV1 := hid hV1
                  have HV2 := hid hV2
                  clear hV hV1 hV2
                  have HXU2_2 := hid (HXU2_1.out.trans hEU22)
                  have HO5 := hid (HO5.out.ext hEU22)
                  clear hEU22
                  refine hK.out _ _ (ext5 HC5.out HXU2_2.out) (fun hSU22 => ?_)
                  clear hK K
                  try simp only [Act.put, List.setIfInBounds_toArray, List.set_cons_zero, List.set_cons_succ]
                  refine wpAnyH_takeL (i := 7) (v := ?U2v7x8) rfl (by kernel_rfl) (by kernel_rfl) (by kernel_rfl) (fun _ _ _ h => h) (Or.inl ⟨by rfl, ?U2y7x8⟩) (by assumption) ?U2r7x8
                  case U2y7x8 => first | (intro w hSw; (try dsimp only at hSw); go_simp; done) | (intro w hSw; (try dsimp only at hSw); go_simp; with_reducible rfl)
                  case' U2r7x8 => try simp only [Act.put, List.setIfInBounds_toArray, List.set_cons_zero, List.set_cons_succ]
                  refine wpAnyH_takeL (i := 8) (v := ?U2v8x9) rfl (by kernel_rfl) (by kernel_rfl) (by kernel_rfl) (fun _ _ _ h => h) (Or.inl ⟨by rfl, ?U2y8x9⟩) (by assumption) ?U2r8x9
                  case U2y8x9 => first | (intro w hSw; (try dsimp only at hSw); go_simp; done) | (intro w hSw; (try dsimp only at hSw); go_simp; with_reducible rfl)
                  case' U2r8x9 => try simp only [Act.put, List.setIfInBounds_toArray, List.set_cons_zero, List.set_cons_succ]
                  refine wpAnyH_takeL (i := 9) (v := ?U2v9x10) rfl (by kernel_rfl) (by kernel_rfl) (by kernel_rfl) (fun _ _ _ h => h) (Or.inl ⟨by rfl, ?U2y9x10⟩) (by assumption) ?U2r9x10
                  case U2y9x10 => first | (intro w hSw; (try dsimp only at hSw); go_simp; done) | (intro w hSw; (try dsimp only at hSw); go_simp; with_reducible rfl)
                  case' U2r9x10 => try simp only [Act.put, List.setIfInBounds_toArray, List.set_cons_zero, List.set_cons_succ]
                  refine wpAnyH_ready (rs := [10]) (by kernel_rfl) (by simp) ?_
                  refine (AllReadyH.consL rfl (fun K hK => ?U2b10x11) AllReadyH.nil)
                  case' U2b10x11 =>
                    go_simp
                    obtain ⟨wZ, aZ, hA, hsz, hEU23, hge, hob⟩ := extAlloc HXU2_2.out (.cells #[.slice none 0 0, .int .i64 0] 76)
                    refine Eq.mpr (congrArg (K _) hA) ?_
                    first | rw [hsz] | (have hq : wr.heap.size = aZ := hsz; rw [hq]; clear hq) | skip
                    have HZB := hid (show ZB wr.heap.size aZ wZ from ⟨hob, hge⟩)
                    clear hA hsz hge hob
                    have HXU2_3 := hid (HXU2_2.out.trans hEU23)
                    have HO5 := hid (HO5.out.ext hEU23)
                    clear hEU23
                    refine hK.out _ _ (ext5 HC5.out HXU2_3.out) (fun hSU23 => ?_)
                    clear hK K
                    try simp only [Act.put, List.setIfInBounds_toArray, List.set_cons_zero, List.set_cons_succ]
                    refine wpAnyH_ready (rs := [11]) (by kernel_rfl) (by simp) ?_
                    refine (AllReadyH.consL rfl (fun K hK => ?U2b11x12) AllReadyH.nil)
                    case' U2b11x12 =>
                      have HXend := HXU2_3
                      have z0 := HZB.out.c0
                      have z1 := HZB.out.c1
                      have zf0 := HZB.out.fr 0
                      have zf1 := HZB.out.fr 1
                      go_simp
                      refine hK.out _ _ (ext5 HC5.out ((HXU2_3.out.setCell HZB.out.ge _).setCell HZB.out.ge _)) (fun hSU24 => ?_)
                      clear hK K
                      try simp only [Act.put, List.setIfInBounds_toArray, List.set_cons_zero, List.set_cons_succ]
                      refine wpAnyH_takeL (i := 12) (v := ?U2v12x13) rfl (by kernel_rfl) (by kernel_rfl) (by kernel_rfl) (fun _ _ _ h => h) (Or.inl ⟨by rfl, ?U2y12x13⟩) (by assumption) ?U2r12x13
                      case U2y12x13 => first | (intro w hSw; (try dsimp only at hSw); go_simp; done) | (intro w hSw; (try dsimp only at hSw); go_simp; with_reducible rfl)
                      case' U2r12x13 => try simp only [Act.put, List.setIfInBounds_toArray, List.set_cons_zero, List.set_cons_succ]
                      refine wpAnyH_done (by kernel_rfl) ?_ _
                      have HX3 := HXend
                      obtain ⟨W7, hW7, hE7, t0, t1, ho7⟩ := putZ HXend.out HZB.out (Nat.le_refl _) HO5.out (.slice VA vn vc) (.int .i64 ((cl : Int) + 1))
                      rw [hW7]
                      have hge := HZB.out.ge
                      have hbr : b < wr.heap.size := by have := World.block_lt_of_cell? _ _ HM.out.x0; exact this
                      have hbZ : b < aZ := by omega
                      have HM7 := hid (HM.out.ext2 hE7)
                      have HS7 := hid (HS.out.ext2 hE7)
                      have hbr2 : b + 1 + 1 < wr.heap.size := by have := World.block_lt_of_cell? _ _ HS.out.r0; exact this
                      have HSL := hid (ho7.num_sl (S := fun d => d ≠ b ∧ d ≠ b + 1 + 1) (fun d hd => ⟨by omega, by omega⟩))
                      have y0 := HM7.out.x0
                      have y1 := HM7.out.x1
                      have fx0 := HM7.out.fx 0
                      have fx1 := HM7.out.fx 1
                      clear hW7 hE7 ho7 hge x0 x1 q0 q1 q2
                      cases r with
                      | true =>
                        obtain ⟨rfl, rfl, rfl⟩ := HV1.out rfl
                        have HSL3 : Hid (Sl u32R W7 (fun d => d ≠ b ∧ d ≠ b + 1 + 1) (.slice VA (M.set j 0).length vc) (M.set j 0)) := hid (by rw [List.length_set]; exact HSL.out)
                        have HPP := HM7.out.put (cl + 1) HSL3.out
                        rw [List.length_set] at HPP
                        have HP7 := hid HPP
                        clear HPP
                        go_wp2
                        first
                          | go_roundw
                          | refine ⟨?rel, ?measure⟩
                        case rel => exact ⟨j + 1, VA, vc, M.set j 0, cl + 1, by go_num, by omega, by omega, by rw [List.length_set]; exact hM, hid (by rw [List.length_set]; exact HNM.out), hid HP7.out, hid (HS7.out.put _ _), hid (HNX.out _ _ ((redK_hit HX.out hx0 HR.out).trans (by congr 1)))⟩
                        case measure => simp [intOf]; omega
                      | false =>
                        obtain ⟨rfl, rfl, rfl⟩ := HV2.out rfl
                        obtain ⟨W8, hW8, hm8, hs8⟩ : ∃ W8, ((W7.setCell ⟨b, 0, none⟩ (.slice (some ⟨g1, o1, none⟩) M.length vc)).setCell ⟨b, 1, none⟩ (.int .i64 ((cl : Int) + 1))) = W8 ∧ RM b w W8 (some ⟨g1, o1, none⟩) vc M (cl + 1) ∧ RS b q W8 := ⟨_, rfl, HM7.out.put (cl + 1) HM7.out.sl, HS7.out.put _ _⟩
                        go_upto_region 13 with (fail)
                        try rw [hW8]
                        obtain ⟨cl2, hcl2⟩ : ∃ cl2, cl + 1 = cl2 := ⟨_, rfl⟩
                        rw [hcl2] at hm8
                        have HCL2 := hid hcl2
                        have HM8 := hid hm8
                        have HS8 := hid hs8
                        have hc2 : cl2 ≤ 1000 := by omega
                        clear hcl2 hm8 hs8 hW8 y0 y1 fx0 fx1 t0 t1
                        have y0 := HM8.out.x0
                        have y1 := HM8.out.x1
                        obtain ⟨g1', o1', hA, cx8, -⟩ := HM8.out.sl.num_at HX.out
                        cases hA
                        by_cases hx1 : x ≤ 1
                        · have hx1' : ¬ ((x : Int) > 1) := by omega
                          go_wp2
                          first
                            | go_roundw
                            | refine ⟨?rel, ?measure⟩
                          case rel => exact ⟨j + 1, _, vc, M, cl2, by go_num, by omega, hc2, hM, HNM, HM8, HS8, hid (HNX.out _ _ ((redK_one HX.out hx0 HR.out hx1).trans (by have := HCL2.out; congr 1; omega)))⟩
                          case measure => simp [intOf]; omega
                        · have hx1' : (x : Int) > 1 := by omega
                          obtain ⟨y, hy⟩ : ∃ y, x / 2 = y := ⟨_, rfl⟩
                          have HYY := hid hy
                          have hy32 : y < 4294967296 := by omega
                          have hq1 : (x : Int).tdiv 2 = (y : Int) := by rw [Int.tdiv_eq_ediv_of_nonneg (by omega)]; omega
                          have hq2 : IntKind.u32.wrap (y : Int) = (y : Int) := IntWalk.u32_in _ (by omega)
                          have hq3 : (x : Int) / 2 = (y : Int) := by omega
                          have q0 := HS8.out.q0
                          have q1 := HS8.out.q1
                          have q2 := HS8.out.q2
                          have HC6 := hid (And.intro y0 (And.intro y1 (And.intro q0 (And.intro q1 (And.intro q2 cx8)))))
                          have HBW := hid (show b + 1 + 1 < W8.heap.size by have := World.block_lt_of_cell? _ _ HS8.out.r0; exact this)
                          clear hy
                          go_wp2_with fail
                          have HXVU21_0 := hid ((Ext.refl W8).drew)
                          refine wp_region_last 16 (fun w' => w'.cell? ⟨b, 0, none⟩ = some (.slice (some ⟨g1, o1, none⟩) M.length vc) ∧ w'.cell? ⟨b, 1, none⟩ = some (.int .i64 cl2) ∧ w'.cell? ⟨b + 1, 0, none⟩ = some (.int .u32 q.least) ∧ w'.cell? ⟨b + 1, 1, none⟩ = some (.int .i64 q.count) ∧ w'.cell? ⟨b + 1, 2, none⟩ = some (.bool q.pair) ∧ w'.cell? ⟨g1, o1 + j, none⟩ = some (.int .u32 x)) (by kernel_rfl) ⟨y0, y1, q0, q1, q2, cx8⟩ (fun hSVU210 => ?_)
                          refine wpAnyE_takeS (i := 0) (v := ?VU21v0) rfl (by kernel_rfl) (by kernel_rfl) (by kernel_rfl) (by kernel_rfl) (by kernel_rfl) (fun _ _ _ h => h) (Or.inl ⟨by rfl, ?VU21y0⟩) hSVU210 ?VU21r0
                          case VU21y0 => first | (intro w hSw; (try dsimp only at hSw); go_simp; done) | (intro w hSw; (try dsimp only at hSw); go_simp; with_reducible rfl)
                          case' VU21r0 => try simp only [Act.put, List.setIfInBounds_toArray, List.set_cons_zero, List.set_cons_succ]
                          refine wpAnyE_takeS (i := 1) (v := ?VU21v1) rfl (by kernel_rfl) (by kernel_rfl) (by kernel_rfl) (by kernel_rfl) (by kernel_rfl) (fun _ _ _ h => h) (Or.inl ⟨by rfl, ?VU21y1⟩) hSVU210 ?VU21r1
                          case VU21y1 => first | (intro w hSw; (try dsimp only at hSw); go_simp; done) | (intro w hSw; (try dsimp only at hSw); go_simp; with_reducible rfl)
                          case' VU21r1 => try simp only [Act.put, List.setIfInBounds_toArray, List.set_cons_zero, List.set_cons_succ]
                          refine wpAnyE_takeS (i := 2) (v := ?VU21v2) rfl (by kernel_rfl) (by kernel_rfl) (by kernel_rfl) (by kernel_rfl) (by kernel_rfl) (fun _ _ _ h => h) (Or.inl ⟨by rfl, ?VU21y2⟩) hSVU210 ?VU21r2
                          case VU21y2 => first | (intro w hSw; (try dsimp only at hSw); go_simp; done) | (intro w hSw; (try dsimp only at hSw); go_simp; with_reducible rfl)
                          case' VU21r2 => try simp only [Act.put, List.setIfInBounds_toArray, List.set_cons_zero, List.set_cons_succ]
                          refine wpAnyE_takeS (i := 3) (v := ?VU21v3) rfl (by kernel_rfl) (by kernel_rfl) (by kernel_rfl) (by kernel_rfl) (by kernel_rfl) (fun _ _ _ h => h) (Or.inl ⟨by rfl, ?VU21y3⟩) hSVU210 ?VU21r3
                          case VU21y3 => first | (intro w hSw; (try dsimp only at hSw); go_simp; done) | (intro w hSw; (try dsimp only at hSw); go_simp; with_reducible rfl)
                          case' VU21r3 => try simp only [Act.put, List.setIfInBounds_toArray, List.set_cons_zero, List.set_cons_succ]
                          refine wpAnyE_takeS (i := 4) (v := ?VU21v4) rfl (by kernel_rfl) (by kernel_rfl) (by kernel_rfl) (by kernel_rfl) (by kernel_rfl) (fun _ _ _ h => h) (Or.inl ⟨by rfl, ?VU21y4⟩) hSVU210 ?VU21r4
                          case VU21y4 => first | (intro w hSw; (try dsimp only at hSw); go_simp; done) | (intro w hSw; (try dsimp only at hSw); go_simp; with_reducible rfl)
                          case' VU21r4 => try simp only [Act.put, List.setIfInBounds_toArray, List.set_cons_zero, List.set_cons_succ]
                          refine wpAnyE_takeS (i := 5) (v := ?VU21v5) rfl (by kernel_rfl) (by kernel_rfl) (by kernel_rfl) (by kernel_rfl) (by kernel_rfl) (fun _ _ _ h => h) (Or.inl ⟨by rfl, ?VU21y5⟩) hSVU210 ?VU21r5
                          case VU21y5 => first | (intro w hSw; (try dsimp only at hSw); go_simp; done) | (intro w hSw; (try dsimp only at hSw); go_simp; with_reducible rfl)
                          case' VU21r5 => try simp only [Act.put, List.setIfInBounds_toArray, List.set_cons_zero, List.set_cons_succ]
                          refine wpAnyE_takeS (i := 6) (v := ?VU21v6) rfl (by kernel_rfl) (by kernel_rfl) (by kernel_rfl) (by kernel_rfl) (by kernel_rfl) (fun _ _ _ h => h) (Or.inl ⟨by rfl, ?VU21y6⟩) hSVU210 ?VU21r6
                          case VU21y6 => first | (intro w hSw; (try dsimp only at hSw); go_simp; done) | (intro w hSw; (try dsimp only at hSw); go_simp; with_reducible rfl)
                          case' VU21r6 => try simp only [Act.put, List.setIfInBounds_toArray, List.set_cons_zero, List.set_cons_succ]
                          refine wpAnyE_takeS (i := 7) (v := ?VU21v7) rfl (by kernel_rfl) (by kernel_rfl) (by kernel_rfl) (by kernel_rfl) (by kernel_rfl) (fun _ _ _ h => h) (Or.inl ⟨by rfl, ?VU21y7⟩) hSVU210 ?VU21r7
                          case VU21y7 => first | (intro w hSw; (try dsimp only at hSw); go_simp; done) | (intro w hSw; (try dsimp only at hSw); go_simp; with_reducible rfl)
                          case' VU21r7 => try simp only [Act.put, List.setIfInBounds_toArray, List.set_cons_zero, List.set_cons_succ]
                          refine wpAnyE_takeS (i := 8) (v := ?VU21v8) rfl (by kernel_rfl) (by kernel_rfl) (by kernel_rfl) (by kernel_rfl) (by kernel_rfl) (fun _ _ _ h => h) (Or.inl ⟨by rfl, ?VU21y8⟩) hSVU210 ?VU21r8
                          case VU21y8 => first | (intro w hSw; (try dsimp only at hSw); go_simp; done) | (intro w hSw; (try dsimp only at hSw); go_simp; with_reducible rfl)
                          case' VU21r8 => try simp only [Act.put, List.setIfInBounds_toArray, List.set_cons_zero, List.set_cons_succ]
                          refine wpAnyE_takeS (i := 9) (v := ?VU21v9) rfl (by kernel_rfl) (by kernel_rfl) (by kernel_rfl) (by kernel_rfl) (by kernel_rfl) (fun _ _ _ h => h) (Or.inl ⟨by rfl, ?VU21y9⟩) hSVU210 ?VU21r9
                          case VU21y9 => first | (intro w hSw; (try dsimp only at hSw); go_simp; done) | (intro w hSw; (try dsimp only at hSw); go_simp; with_reducible rfl)
                          case' VU21r9 => try simp only [Act.put, List.setIfInBounds_toArray, List.set_cons_zero, List.set_cons_succ]
                          refine wpAnyE_takeS (i := 10) (v := ?VU21v10) rfl (by kernel_rfl) (by kernel_rfl) (by kernel_rfl) (by kernel_rfl) (by kernel_rfl) (fun _ _ _ h => h) (Or.inl ⟨by rfl, ?VU21y10⟩) hSVU210 ?VU21r10
                          case VU21y10 => first | (intro w hSw; (try dsimp only at hSw); go_simp; done) | (intro w hSw; (try dsimp only at hSw); go_simp; with_reducible rfl)
                          case' VU21r10 => try simp only [Act.put, List.setIfInBounds_toArray, List.set_cons_zero, List.set_cons_succ]
                          refine wpAnyE_one (k := 11) (by kernel_rfl) rfl (fun K hK => ?_)
                          go_simp
                          go_at_call 51
                          refine (with_any _ _ (some ⟨g1, o1, none⟩) M.length vc M (HM8.out.sl.ext HXVU21_0.out) hM j y hjM hy32).mono ?_
                          rintro e w9 ⟨hEVU211, A9, c9, rfl, ho9⟩
                          have HO9 := hid (ho9.lower HXVU21_0.out.size)
                          clear ho9
                          have HXVU21_1 := hid (HXVU21_0.out.trans hEVU211)
                          clear hEVU211
                          refine hK.out _ _ (fun _ => ext6 HC6.out HXVU21_1.out) ?_
                          clear hK K
                          try simp only [Act.put, List.setIfInBounds_toArray, List.set_cons_zero, List.set_cons_succ]
                          refine wpAnyE_one (k := 12) (by kernel_rfl) rfl (fun K hK => ?_)
                          go_simp
                          go_at_call 50
                          obtain ⟨VB, vm, vd, k2, r2, hg1, hg2, hcall⟩ := rtry_gen _ q (some ⟨g1, o1, none⟩) A9 M.length vc M.length c9 cl2 hc2 (M.set j y) HO9.out.sl
                          refine hcall.mono ?_
                          rintro e w10 ⟨hEVU212, rfl⟩
                          have HG1 := hid hg1
                          have HG2 := hid hg2
                          clear hg1 hg2 hcall
                          have HXVU21_2 := hid (HXVU21_1.out.trans hEVU212)
                          have HO9 := hid (HO9.out.ext hEVU212)
                          clear hEVU212
                          refine hK.out _ _ (fun _ => ext6 HC6.out HXVU21_2.out) ?_
                          clear hK K
                          try simp only [Act.put, List.setIfInBounds_toArray, List.set_cons_zero, List.set_cons_succ]
                          refine wpAnyE_takeS (i := 13) (v := ?VU21v13) rfl (by kernel_rfl) (by kernel_rfl) (by kernel_rfl) (by kernel_rfl) (by kernel_rfl) (fun _ _ _ h => h) (Or.inl ⟨by rfl, ?VU21y13⟩) (ext6 HC6.out HXVU21_2.out) ?VU21r13
                          case VU21y13 => first | (intro w hSw; (try dsimp only at hSw); go_simp; done) | (intro w hSw; (try dsimp only at hSw); go_simp; with_reducible rfl)
                          case' VU21r13 => try simp only [Act.put, List.setIfInBounds_toArray, List.set_cons_zero, List.set_cons_succ]
                          refine wpAnyE_takeS (i := 14) (v := ?VU21v14) rfl (by kernel_rfl) (by kernel_rfl) (by kernel_rfl) (by kernel_rfl) (by kernel_rfl) (fun _ _ _ h => h) (Or.inl ⟨by rfl, ?VU21y14⟩) (ext6 HC6.out HXVU21_2.out) ?VU21r14
                          case VU21y14 => first | (intro w hSw; (try dsimp only at hSw); go_simp; done) | (intro w hSw; (try dsimp only at hSw); go_simp; with_reducible rfl)
                          case' VU21r14 => try simp only [Act.put, List.setIfInBounds_toArray, List.set_cons_zero, List.set_cons_succ]
                          refine wpAnyE_takeP (i := 15) (v := ?VU21v15) rfl (by kernel_rfl) (by kernel_rfl) (by kernel_rfl) (by decide) (fun _ _ _ h => h) (Or.inl ⟨by rfl, ?VU21y15⟩) (ext6 HC6.out HXVU21_2.out) ?VU21r15
                          case VU21y15 => first | (intro w hSw; (try dsimp only at hSw); go_simp; done) | (intro w hSw; (try dsimp only at hSw); go_simp; with_reducible rfl)
                          case' VU21r15 => try simp only [Act.put, List.setIfInBounds_toArray, List.set_cons_zero, List.set_cons_succ]
                          refine wpAnyE_one (k := 16) (by kernel_rfl) rfl (fun K hK => ?_)
                          have z0 := HM8.out.x0
                          have HM9 := hid (HM8.out.ext2 HXVU21_2.out)
                          have HS9 := hid (HS8.out.ext2 HXVU21_2.out)
                          clear y0 y1 z0
                          have y0 := HM9.out.x0
                          have y1 := HM9.out.x1
                          have fx0 := HM9.out.fx 0
                          have fx1 := HM9.out.fx 1
                          go_simp
                          have HXend := HXVU21_2
                          refine hK.out _ _ (fun h => absurd (show true = false from h) (by simp)) ?_
                          clear hK K
                          try simp only [Act.put, List.setIfInBounds_toArray, List.set_cons_zero, List.set_cons_succ]
                          refine wpAnyE_done (by kernel_rfl) ?_ _
                          have hbw := HBW.out
                          go_wp2
                          rcases Nat.lt_or_ge cl2 1000 with hc9 | hc9
                          · obtain ⟨rfl, hp9, hv1, hv2⟩ := HG2.out hc9
                            have hp9' : P (M.set j (x / 2)) = r2 := by rw [HYY.out, ← HP.out]; exact hp9
                            cases r2 with
                            | true =>
                              obtain ⟨rfl, rfl, rfl⟩ := hv1 rfl
                              have HSL2 := hid (HO9.out.num_sl (S := fun d => d ≠ b ∧ d ≠ b + 1 + 1) (fun d hd => ⟨by omega, by omega⟩))
                              have hsl3 := HSL2.out
                              have hlen : M.length = (M.set j y).length := by rw [List.length_set]
                              rw [hlen] at hsl3
                              have HPP := HM9.out.put (cl2 + 1) hsl3
                              have HPQ := HPP
                              rw [List.length_set] at HPQ
                              first
                                | go_roundw
                                | refine ⟨?rel, ?measure⟩
                              case rel => exact ⟨j + 1, VB, vd, M.set j y, cl2 + 1, by go_num, by omega, by omega, by rw [List.length_set]; exact hM, hid (by rw [List.length_set]; exact HNM.out), hid HPQ, hid (HS9.out.put _ _), hid (HNX.out _ _ ((redK_half HX.out hx0 HR.out hx1 (by have := HCL2.out; omega) hp9').trans (by rw [HYY.out]; have := HCL2.out; congr 1; omega)))⟩
                              case measure => simp [intOf]; omega
                            | false =>
                              obtain ⟨rfl, rfl, rfl⟩ := hv2 rfl
                              have HPP := HM9.out.put (cl2 + 1) HM9.out.sl
                              first
                                | go_roundw
                                | refine ⟨?rel, ?measure⟩
                              case rel => exact ⟨j + 1, _, vd, M, cl2 + 1, by go_num, by omega, by omega, hM, HNM, hid HPP, hid (HS9.out.put _ _), hid (HNX.out _ _ ((redK_miss HX.out hx0 HR.out hx1 (by have := HCL2.out; omega) hp9').trans (by have := HCL2.out; congr 1; omega)))⟩
                              case measure => simp [intOf]; omega
                          · obtain ⟨rfl, rfl, rfl, rfl, rfl⟩ := HG1.out (by omega)
                            have HPP := HM9.out.put 1000 HM9.out.sl
                            first
                              | go_roundw
                              | refine ⟨?rel, ?measure⟩
                            case rel => exact ⟨j + 1, _, vd, M, 1000, by go_num, by omega, by omega, hM, HNM, hid HPP, hid (HS9.out.put _ _), hid (HNX.out _ _ (redK_out HX.out hx0 HR.out hx1 (by have := HCL2.out; omega)))⟩
                            case measure => simp [intOf]; omega
                case' U2b10x7 =>
                  go_simp
                  obtain ⟨wZ, aZ, hA, hsz, hEU22, hge, hob⟩ := extAlloc HXU2_1.out (.cells #[.slice none 0 0, .int .i64 0] 76)
                  refine Eq.mpr (congrArg (K _) hA) ?_
                  first | rw [hsz] | (have hq : wr.heap.size = aZ := hsz; rw [hq]; clear hq) | skip
                  have HZB := hid (show ZB wr.heap.size aZ wZ from ⟨hob, hge⟩)
                  clear hA hsz hge hob
                  have HXU2_2 := hid (HXU2_1.out.trans hEU22)
                  have HO5 := hid (HO5.out.ext hEU22)
                  clear hEU22
                  refine hK.out _ _ (ext5 HC5.out HXU2_2.out) (fun hSU22 => ?_)
                  clear hK K
                  try simp only [Act.put, List.setIfInBounds_toArray, List.set_cons_zero, List.set_cons_succ]
                  refine wpAnyH_ready (rs := [6]) (by kernel_rfl) (by simp) ?_
                  refine (AllReadyH.consL rfl (fun K hK => ?U2b6x14) AllReadyH.nil)
                  case' U2b6x14 =>
                    go_simp
                    go_at_call 50
                    refine (rtry_in _ q (some ⟨g1, o1, none⟩) A5 M.length c1 M.length c5 cl hcl0 (M.set j 0) HO5.out.sl r (by rw [HP.out]; exact HR.out)).mono ?_
                    rintro e w6 ⟨hEU23, rfl⟩
                    obtain ⟨VA, vn, vc, hV, hV1, hV2⟩ := pick_sl r A5 M.length c5 (some ⟨g1, o1, none⟩) M.length c1
                    rw [hV]
                    have HV1 := hid hV1
                    have HV2 := hid hV2
                    clear hV hV1 hV2
                    have HXU2_3 := hid (HXU2_2.out.trans hEU23)
                    have HO5 := hid (HO5.out.ext hEU23)
                    have HZB := hid (HZB.out.ext hEU23)
                    clear hEU23
                    refine hK.out _ _ (ext5 HC5.out HXU2_3.out) (fun hSU23 => ?_)
                    clear hK K
                    try simp only [Act.put, List.setIfInBounds_toArray, List.set_cons_zero, List.set_cons_succ]
                    refine wpAnyH_takeL (i := 7) (v := ?U2v7x15) rfl (by kernel_rfl) (by kernel_rfl) (by kernel_rfl) (fun _ _ _ h => h) (Or.inl ⟨by rfl, ?U2y7x15⟩) (by assumption) ?U2r7x15
                    case U2y7x15 => first | (intro w hSw; (try dsimp only at hSw); go_simp; done) | (intro w hSw; (try dsimp only at hSw); go_simp; with_reducible rfl)
                    case' U2r7x15 => try simp only [Act.put, List.setIfInBounds_toArray, List.set_cons_zero, List.set_cons_succ]
                    refine wpAnyH_takeL (i := 8) (v := ?U2v8x16) rfl (by kernel_rfl) (by kernel_rfl) (by kernel_rfl) (fun _ _ _ h => h) (Or.inl ⟨by rfl, ?U2y8x16⟩) (by assumption) ?U2r8x16
                    case U2y8x16 => first | (intro w hSw; (try dsimp only at hSw); go_simp; done) | (intro w hSw; (try dsimp only at hSw); go_simp; with_reducible rfl)
                    case' U2r8x16 => try simp only [Act.put, List.setIfInBounds_toArray, List.set_cons_zero, List.set_cons_succ]
                    refine wpAnyH_takeL (i := 9) (v := ?U2v9x17) rfl (by kernel_rfl) (by kernel_rfl) (by kernel_rfl) (fun _ _ _ h => h) (Or.inl ⟨by rfl, ?U2y9x17⟩) (by assumption) ?U2r9x17
                    case U2y9x17 => first | (intro w hSw; (try dsimp only at hSw); go_simp; done) | (intro w hSw; (try dsimp only at hSw); go_simp; with_reducible rfl)
                    case' U2r9x17 => try simp only [Act.put, List.setIfInBounds_toArray, List.set_cons_zero, List.set_cons_succ]
                    refine wpAnyH_ready (rs := [11]) (by kernel_rfl) (by simp) ?_
                    refine (AllReadyH.consL rfl (fun K hK => ?U2b11x18) AllReadyH.nil)
                    case' U2b11x18 =>
                      have HXend := HXU2_3
                      have z0 := HZB.out.c0
                      have z1 := HZB.out.c1
                      have zf0 := HZB.out.fr 0
                      have zf1 := HZB.out.fr 1
                      go_simp
                      refine hK.out _ _ (ext5 HC5.out ((HXU2_3.out.setCell HZB.out.ge _).setCell HZB.out.ge _)) (fun hSU24 => ?_)
                      clear hK K
                      try simp only [Act.put, List.setIfInBounds_toArray, List.set_cons_zero, List.set_cons_succ]
                      refine wpAnyH_takeL (i := 12) (v := ?U2v12x19) rfl (by kernel_rfl) (by kernel_rfl) (by kernel_rfl) (fun _ _ _ h => h) (Or.inl ⟨by rfl, ?U2y12x19⟩) (by assumption) ?U2r12x19
                      case U2y12x19 => first | (intro w hSw; (try dsimp only at hSw); go_simp; done) | (intro w hSw; (try dsimp only at hSw); go_simp; with_reducible rfl)
                      case' U2r12x19 => try simp only [Act.put, List.setIfInBounds_toArray, List.set_cons_zero, List.set_cons_succ]
                      refine wpAnyH_done (by kernel_rfl) ?_ _
                      have HX3 := HXend
                      obtain ⟨W7, hW7, hE7, t0, t1, ho7⟩ := putZ HXend.out HZB.out (Nat.le_refl _) HO5.out (.slice VA vn vc) (.int .i64 ((cl : Int) + 1))
                      rw [hW7]
                      have hge := HZB.out.ge
                      have hbr : b < wr.heap.size := by have := World.block_lt_of_cell? _ _ HM.out.x0; exact this
                      have hbZ : b < aZ := by omega
                      have HM7 := hid (HM.out.ext2 hE7)
                      have HS7 := hid (HS.out.ext2 hE7)
                      have hbr2 : b + 1 + 1 < wr.heap.size := by have := World.block_lt_of_cell? _ _ HS.out.r0; exact this
                      have HSL := hid (ho7.num_sl (S := fun d => d ≠ b ∧ d ≠ b + 1 + 1) (fun d hd => ⟨by omega, by omega⟩))
                      have y0 := HM7.out.x0
                      have y1 := HM7.out.x1
                      have fx0 := HM7.out.fx 0
                      have fx1 := HM7.out.fx 1
                      clear hW7 hE7 ho7 hge x0 x1 q0 q1 q2
                      cases r with
                      | true =>
                        obtain ⟨rfl, rfl, rfl⟩ := HV1.out rfl
                        have HSL3 : Hid (Sl u32R W7 (fun d => d ≠ b ∧ d ≠ b + 1 + 1) (.slice VA (M.set j 0).length vc) (M.set j 0)) := hid (by rw [List.length_set]; exact HSL.out)
                        have HPP := HM7.out.put (cl + 1) HSL3.out
                        rw [List.length_set] at HPP
                        have HP7 := hid HPP
                        clear HPP
                        go_wp2
                        first
                          | go_roundw
                          | refine ⟨?rel, ?measure⟩
                        case rel => exact ⟨j + 1, VA, vc, M.set j 0, cl + 1, by go_num, by omega, by omega, by rw [List.length_set]; exact hM, hid (by rw [List.length_set]; exact HNM.out), hid HP7.out, hid (HS7.out.put _ _), hid (HNX.out _ _ ((redK_hit HX.out hx0 HR.out).trans (by congr 1)))⟩
                        case measure => simp [intOf]; omega
                      | false =>
                        obtain ⟨rfl, rfl, rfl⟩ := HV2.out rfl
                        obtain ⟨W8, hW8, hm8, hs8⟩ : ∃ W8, ((W7.setCell ⟨b, 0, none⟩ (.slice (some ⟨g1, o1, none⟩) M.length vc)).setCell ⟨b, 1, none⟩ (.int .i64 ((cl : Int) + 1))) = W8 ∧ RM b w W8 (some ⟨g1, o1, none⟩) vc M (cl + 1) ∧ RS b q W8 := ⟨_, rfl, HM7.out.put (cl + 1) HM7.out.sl, HS7.out.put _ _⟩
                        go_upto_region 13 with (fail)
                        try rw [hW8]
                        obtain ⟨cl2, hcl2⟩ : ∃ cl2, cl + 1 = cl2 := ⟨_, rfl⟩
                        rw [hcl2] at hm8
                        have HCL2 := hid hcl2
                        have HM8 := hid hm8
                        have HS8 := hid hs8
                        have hc2 : cl2 ≤ 1000 := by omega
                        clear hcl2 hm8 hs8 hW8 y0 y1 fx0 fx1 t0 t1
                        have y0 := HM8.out.x0
                        have y1 := HM8.out.x1
                        obtain ⟨g1', o1', hA, cx8, -⟩ := HM8.out.sl.num_at HX.out
                        cases hA
                        by_cases hx1 : x ≤ 1
                        · have hx1' : ¬ ((x : Int) > 1) := by omega
                          go_wp2
                          first
                            | go_roundw
                            | refine ⟨?rel, ?measure⟩
                          case rel => exact ⟨j + 1, _, vc, M, cl2, by go_num, by omega, hc2, hM, HNM, HM8, HS8, hid (HNX.out _ _ ((redK_one HX.out hx0 HR.out hx1).trans (by have := HCL2.out; congr 1; omega)))⟩
                          case measure => simp [intOf]; omega
                        · have hx1' : (x : Int) > 1 := by omega
                          obtain ⟨y, hy⟩ : ∃ y, x / 2 = y := ⟨_, rfl⟩
                          have HYY := hid hy
                          have hy32 : y < 4294967296 := by omega
                          have hq1 : (x : Int).tdiv 2 = (y : Int) := by rw [Int.tdiv_eq_ediv_of_nonneg (by omega)]; omega
                          have hq2 : IntKind.u32.wrap (y : Int) = (y : Int) := IntWalk.u32_in _ (by omega)
                          have hq3 : (x : Int) / 2 = (y : Int) := by omega
                          have q0 := HS8.out.q0
                          have q1 := HS8.out.q1
                          have q2 := HS8.out.q2
                          have HC6 := hid (And.intro y0 (And.intro y1 (And.intro q0 (And.intro q1 (And.intro q2 cx8)))))
                          have HBW := hid (show b + 1 + 1 < W8.heap.size by have := World.block_lt_of_cell? _ _ HS8.out.r0; exact this)
                          clear hy
                          go_wp2_with fail
                          have HXVU22_0 := hid ((Ext.refl W8).drew)
                          refine wp_region_last 16 (fun w' => w'.cell? ⟨b, 0, none⟩ = some (.slice (some ⟨g1, o1, none⟩) M.length vc) ∧ w'.cell? ⟨b, 1, none⟩ = some (.int .i64 cl2) ∧ w'.cell? ⟨b + 1, 0, none⟩ = some (.int .u32 q.least) ∧ w'.cell? ⟨b + 1, 1, none⟩ = some (.int .i64 q.count) ∧ w'.cell? ⟨b + 1, 2, none⟩ = some (.bool q.pair) ∧ w'.cell? ⟨g1, o1 + j, none⟩ = some (.int .u32 x)) (by kernel_rfl) ⟨y0, y1, q0, q1, q2, cx8⟩ (fun hSVU220 => ?_)
                          refine wpAnyE_takeS (i := 0) (v := ?VU22v0) rfl (by kernel_rfl) (by kernel_rfl) (by kernel_rfl) (by kernel_rfl) (by kernel_rfl) (fun _ _ _ h => h) (Or.inl ⟨by rfl, ?VU22y0⟩) hSVU220 ?VU22r0
                          case VU22y0 => first | (intro w hSw; (try dsimp only at hSw); go_simp; done) | (intro w hSw; (try dsimp only at hSw); go_simp; with_reducible rfl)
                          case' VU22r0 => try simp only [Act.put, List.setIfInBounds_toArray, List.set_cons_zero, List.set_cons_succ]
                          refine wpAnyE_takeS (i := 1) (v := ?VU22v1) rfl (by kernel_rfl) (by kernel_rfl) (by kernel_rfl) (by kernel_rfl) (by kernel_rfl) (fun _ _ _ h => h) (Or.inl ⟨by rfl, ?VU22y1⟩) hSVU220 ?VU22r1
                          case VU22y1 => first | (intro w hSw; (try dsimp only at hSw); go_simp; done) | (intro w hSw; (try dsimp only at hSw); go_simp; with_reducible rfl)
                          case' VU22r1 => try simp only [Act.put, List.setIfInBounds_toArray, List.set_cons_zero, List.set_cons_succ]
                          refine wpAnyE_takeS (i := 2) (v := ?VU22v2) rfl (by kernel_rfl) (by kernel_rfl) (by kernel_rfl) (by kernel_rfl) (by kernel_rfl) (fun _ _ _ h => h) (Or.inl ⟨by rfl, ?VU22y2⟩) hSVU220 ?VU22r2
                          case VU22y2 => first | (intro w hSw; (try dsimp only at hSw); go_simp; done) | (intro w hSw; (try dsimp only at hSw); go_simp; with_reducible rfl)
                          case' VU22r2 => try simp only [Act.put, List.setIfInBounds_toArray, List.set_cons_zero, List.set_cons_succ]
                          refine wpAnyE_takeS (i := 3) (v := ?VU22v3) rfl (by kernel_rfl) (by kernel_rfl) (by kernel_rfl) (by kernel_rfl) (by kernel_rfl) (fun _ _ _ h => h) (Or.inl ⟨by rfl, ?VU22y3⟩) hSVU220 ?VU22r3
                          case VU22y3 => first | (intro w hSw; (try dsimp only at hSw); go_simp; done) | (intro w hSw; (try dsimp only at hSw); go_simp; with_reducible rfl)
                          case' VU22r3 => try simp only [Act.put, List.setIfInBounds_toArray, List.set_cons_zero, List.set_cons_succ]
                          refine wpAnyE_takeS (i := 4) (v := ?VU22v4) rfl (by kernel_rfl) (by kernel_rfl) (by kernel_rfl) (by kernel_rfl) (by kernel_rfl) (fun _ _ _ h => h) (Or.inl ⟨by rfl, ?VU22y4⟩) hSVU220 ?VU22r4
                          case VU22y4 => first | (intro w hSw; (try dsimp only at hSw); go_simp; done) | (intro w hSw; (try dsimp only at hSw); go_simp; with_reducible rfl)
                          case' VU22r4 => try simp only [Act.put, List.setIfInBounds_toArray, List.set_cons_zero, List.set_cons_succ]
                          refine wpAnyE_takeS (i := 5) (v := ?VU22v5) rfl (by kernel_rfl) (by kernel_rfl) (by kernel_rfl) (by kernel_rfl) (by kernel_rfl) (fun _ _ _ h => h) (Or.inl ⟨by rfl, ?VU22y5⟩) hSVU220 ?VU22r5
                          case VU22y5 => first | (intro w hSw; (try dsimp only at hSw); go_simp; done) | (intro w hSw; (try dsimp only at hSw); go_simp; with_reducible rfl)
                          case' VU22r5 => try simp only [Act.put, List.setIfInBounds_toArray, List.set_cons_zero, List.set_cons_succ]
                          refine wpAnyE_takeS (i := 6) (v := ?VU22v6) rfl (by kernel_rfl) (by kernel_rfl) (by kernel_rfl) (by kernel_rfl) (by kernel_rfl) (fun _ _ _ h => h) (Or.inl ⟨by rfl, ?VU22y6⟩) hSVU220 ?VU22r6
                          case VU22y6 => first | (intro w hSw; (try dsimp only at hSw); go_simp; done) | (intro w hSw; (try dsimp only at hSw); go_simp; with_reducible rfl)
                          case' VU22r6 => try simp only [Act.put, List.setIfInBounds_toArray, List.set_cons_zero, List.set_cons_succ]
                          refine wpAnyE_takeS (i := 7) (v := ?VU22v7) rfl (by kernel_rfl) (by kernel_rfl) (by kernel_rfl) (by kernel_rfl) (by kernel_rfl) (fun _ _ _ h => h) (Or.inl ⟨by rfl, ?VU22y7⟩) hSVU220 ?VU22r7
                          case VU22y7 => first | (intro w hSw; (try dsimp only at hSw); go_simp; done) | (intro w hSw; (try dsimp only at hSw); go_simp; with_reducible rfl)
                          case' VU22r7 => try simp only [Act.put, List.setIfInBounds_toArray, List.set_cons_zero, List.set_cons_succ]
                          refine wpAnyE_takeS (i := 8) (v := ?VU22v8) rfl (by kernel_rfl) (by kernel_rfl) (by kernel_rfl) (by kernel_rfl) (by kernel_rfl) (fun _ _ _ h => h) (Or.inl ⟨by rfl, ?VU22y8⟩) hSVU220 ?VU22r8
                          case VU22y8 => first | (intro w hSw; (try dsimp only at hSw); go_simp; done) | (intro w hSw; (try dsimp only at hSw); go_simp; with_reducible rfl)
                          case' VU22r8 => try simp only [Act.put, List.setIfInBounds_toArray, List.set_cons_zero, List.set_cons_succ]
                          refine wpAnyE_takeS (i := 9) (v := ?VU22v9) rfl (by kernel_rfl) (by kernel_rfl) (by kernel_rfl) (by kernel_rfl) (by kernel_rfl) (fun _ _ _ h => h) (Or.inl ⟨by rfl, ?VU22y9⟩) hSVU220 ?VU22r9
                          case VU22y9 => first | (intro w hSw; (try dsimp only at hSw); go_simp; done) | (intro w hSw; (try dsimp only at hSw); go_simp; with_reducible rfl)
                          case' VU22r9 => try simp only [Act.put, List.setIfInBounds_toArray, List.set_cons_zero, List.set_cons_succ]
                          refine wpAnyE_takeS (i := 10) (v := ?VU22v10) rfl (by kernel_rfl) (by kernel_rfl) (by kernel_rfl) (by kernel_rfl) (by kernel_rfl) (fun _ _ _ h => h) (Or.inl ⟨by rfl, ?VU22y10⟩) hSVU220 ?VU22r10
                          case VU22y10 => first | (intro w hSw; (try dsimp only at hSw); go_simp; done) | (intro w hSw; (try dsimp only at hSw); go_simp; with_reducible rfl)
                          case' VU22r10 => try simp only [Act.put, List.setIfInBounds_toArray, List.set_cons_zero, List.set_cons_succ]
                          refine wpAnyE_one (k := 11) (by kernel_rfl) rfl (fun K hK => ?_)
                          go_simp
                          go_at_call 51
                          refine (with_any _ _ (some ⟨g1, o1, none⟩) M.length vc M (HM8.out.sl.ext HXVU22_0.out) hM j y hjM hy32).mono ?_
                          rintro e w9 ⟨hEVU221, A9, c9, rfl, ho9⟩
                          have HO9 := hid (ho9.lower HXVU22_0.out.size)
                          clear ho9
                          have HXVU22_1 := hid (HXVU22_0.out.trans hEVU221)
                          clear hEVU221
                          refine hK.out _ _ (fun _ => ext6 HC6.out HXVU22_1.out) ?_
                          clear hK K
                          try simp only [Act.put, List.setIfInBounds_toArray, List.set_cons_zero, List.set_cons_succ]
                          refine wpAnyE_one (k := 12) (by kernel_rfl) rfl (fun K hK => ?_)
                          go_simp
                          go_at_call 50
                          obtain ⟨VB, vm, vd, k2, r2, hg1, hg2, hcall⟩ := rtry_gen _ q (some ⟨g1, o1, none⟩) A9 M.length vc M.length c9 cl2 hc2 (M.set j y) HO9.out.sl
                          refine hcall.mono ?_
                          rintro e w10 ⟨hEVU222, rfl⟩
                          have HG1 := hid hg1
                          have HG2 := hid hg2
                          clear hg1 hg2 hcall
                          have HXVU22_2 := hid (HXVU22_1.out.trans hEVU222)
                          have HO9 := hid (HO9.out.ext hEVU222)
                          clear hEVU222
                          refine hK.out _ _ (fun _ => ext6 HC6.out HXVU22_2.out) ?_
                          clear hK K
                          try simp only [Act.put, List.setIfInBounds_toArray, List.set_cons_zero, List.set_cons_succ]
                          refine wpAnyE_takeS (i := 13) (v := ?VU22v13) rfl (by kernel_rfl) (by kernel_rfl) (by kernel_rfl) (by kernel_rfl) (by kernel_rfl) (fun _ _ _ h => h) (Or.inl ⟨by rfl, ?VU22y13⟩) (ext6 HC6.out HXVU22_2.out) ?VU22r13
                          case VU22y13 => first | (intro w hSw; (try dsimp only at hSw); go_simp; done) | (intro w hSw; (try dsimp only at hSw); go_simp; with_reducible rfl)
                          case' VU22r13 => try simp only [Act.put, List.setIfInBounds_toArray, List.set_cons_zero, List.set_cons_succ]
                          refine wpAnyE_takeS (i := 14) (v := ?VU22v14) rfl (by kernel_rfl) (by kernel_rfl) (by kernel_rfl) (by kernel_rfl) (by kernel_rfl) (fun _ _ _ h => h) (Or.inl ⟨by rfl, ?VU22y14⟩) (ext6 HC6.out HXVU22_2.out) ?VU22r14
                          case VU22y14 => first | (intro w hSw; (try dsimp only at hSw); go_simp; done) | (intro w hSw; (try dsimp only at hSw); go_simp; with_reducible rfl)
                          case' VU22r14 => try simp only [Act.put, List.setIfInBounds_toArray, List.set_cons_zero, List.set_cons_succ]
                          refine wpAnyE_takeP (i := 15) (v := ?VU22v15) rfl (by kernel_rfl) (by kernel_rfl) (by kernel_rfl) (by decide) (fun _ _ _ h => h) (Or.inl ⟨by rfl, ?VU22y15⟩) (ext6 HC6.out HXVU22_2.out) ?VU22r15
                          case VU22y15 => first | (intro w hSw; (try dsimp only at hSw); go_simp; done) | (intro w hSw; (try dsimp only at hSw); go_simp; with_reducible rfl)
                          case' VU22r15 => try simp only [Act.put, List.setIfInBounds_toArray, List.set_cons_zero, List.set_cons_succ]
                          refine wpAnyE_one (k := 16) (by kernel_rfl) rfl (fun K hK => ?_)
                          have z0 := HM8.out.x0
                          have HM9 := hid (HM8.out.ext2 HXVU22_2.out)
                          have HS9 := hid (HS8.out.ext2 HXVU22_2.out)
                          clear y0 y1 z0
                          have y0 := HM9.out.x0
                          have y1 := HM9.out.x1
                          have fx0 := HM9.out.fx 0
                          have fx1 := HM9.out.fx 1
                          go_simp
                          have HXend := HXVU22_2
                          refine hK.out _ _ (fun h => absurd (show true = false from h) (by simp)) ?_
                          clear hK K
                          try simp only [Act.put, List.setIfInBounds_toArray, List.set_cons_zero, List.set_cons_succ]
                          refine wpAnyE_done (by kernel_rfl) ?_ _
                          have hbw := HBW.out
                          go_wp2
                          rcases Nat.lt_or_ge cl2 1000 with hc9 | hc9
                          · obtain ⟨rfl, hp9, hv1, hv2⟩ := HG2.out hc9
                            have hp9' : P (M.set j (x / 2)) = r2 := by rw [HYY.out, ← HP.out]; exact hp9
                            cases r2 with
                            | true =>
                              obtain ⟨rfl, rfl, rfl⟩ := hv1 rfl
                              have HSL2 := hid (HO9.out.num_sl (S := fun d => d ≠ b ∧ d ≠ b + 1 + 1) (fun d hd => ⟨by omega, by omega⟩))
                              have hsl3 := HSL2.out
                              have hlen : M.length = (M.set j y).length := by rw [List.length_set]
                              rw [hlen] at hsl3
                              have HPP := HM9.out.put (cl2 + 1) hsl3
                              have HPQ := HPP
                              rw [List.length_set] at HPQ
                              first
                                | go_roundw
                                | refine ⟨?rel, ?measure⟩
                              case rel => exact ⟨j + 1, VB, vd, M.set j y, cl2 + 1, by go_num, by omega, by omega, by rw [List.length_set]; exact hM, hid (by rw [List.length_set]; exact HNM.out), hid HPQ, hid (HS9.out.put _ _), hid (HNX.out _ _ ((redK_half HX.out hx0 HR.out hx1 (by have := HCL2.out; omega) hp9').trans (by rw [HYY.out]; have := HCL2.out; congr 1; omega)))⟩
                              case measure => simp [intOf]; omega
                            | false =>
                              obtain ⟨rfl, rfl, rfl⟩ := hv2 rfl
                              have HPP := HM9.out.put (cl2 + 1) HM9.out.sl
                              first
                                | go_roundw
                                | refine ⟨?rel, ?measure⟩
                              case rel => exact ⟨j + 1, _, vd, M, cl2 + 1, by go_num, by omega, by omega, hM, HNM, hid HPP, hid (HS9.out.put _ _), hid (HNX.out _ _ ((redK_miss HX.out hx0 HR.out hx1 (by have := HCL2.out; omega) hp9').trans (by have := HCL2.out; congr 1; omega)))⟩
                              case measure => simp [intOf]; omega
                          · obtain ⟨rfl, rfl, rfl, rfl, rfl⟩ := HG1.out (by omega)
                            have HPP := HM9.out.put 1000 HM9.out.sl
                            first
                              | go_roundw
                              | refine ⟨?rel, ?measure⟩
                            case rel => exact ⟨j + 1, _, vd, M, 1000, by go_num, by omega, by omega, hM, HNM, hid HPP, hid (HS9.out.put _ _), hid (HNX.out _ _ (redK_out HX.out hx0 HR.out hx1 (by have := HCL2.out; omega)))⟩
                            case measure => simp [intOf]; omega
              case' U2b10x6 =>
                go_simp
                obtain ⟨wZ, aZ, hA, hsz, hEU21, hge, hob⟩ := extAlloc HXU2_0.out (.cells #[.slice none 0 0, .int .i64 0] 76)
                refine Eq.mpr (congrArg (K _) hA) ?_
                first | rw [hsz] | (have hq : wr.heap.size = aZ := hsz; rw [hq]; clear hq) | skip
                have HZB := hid (show ZB wr.heap.size aZ wZ from ⟨hob, hge⟩)
                clear hA hsz hge hob
                have HXU2_1 := hid (HXU2_0.out.trans hEU21)
                clear hEU21
                refine hK.out _ _ (ext5 HC5.out HXU2_1.out) (fun hSU21 => ?_)
                clear hK K
                try simp only [Act.put, List.setIfInBounds_toArray, List.set_cons_zero, List.set_cons_succ]
                refine wpAnyH_ready (rs := [5]) (by kernel_rfl) (by simp) ?_
                refine (AllReadyH.consL rfl (fun K hK => ?U2b5x20) AllReadyH.nil)
                case' U2b5x20 =>
                  go_simp
                  go_at_call 51
                  refine (with_any _ _ (some ⟨g1, o1, none⟩) M.length c1 M (HM.out.sl.ext HXU2_1.out) hM j 0 hjM (by omega)).mono ?_
                  rintro e w5 ⟨hEU22, A5, c5, rfl, ho5⟩
                  have HO5 := hid (ho5.lower HXU2_1.out.size)
                  clear ho5
                  have HXU2_2 := hid (HXU2_1.out.trans hEU22)
                  have HZB := hid (HZB.out.ext hEU22)
                  clear hEU22
                  refine hK.out _ _ (ext5 HC5.out HXU2_2.out) (fun hSU22 => ?_)
                  clear hK K
                  try simp only [Act.put, List.setIfInBounds_toArray, List.set_cons_zero, List.set_cons_succ]
                  refine wpAnyH_ready (rs := [6]) (by kernel_rfl) (by simp) ?_
                  refine (AllReadyH.consL rfl (fun K hK => ?U2b6x21) AllReadyH.nil)
                  case' U2b6x21 =>
                    go_simp
                    go_at_call 50
                    refine (rtry_in _ q (some ⟨g1, o1, none⟩) A5 M.length c1 M.length c5 cl hcl0 (M.set j 0) HO5.out.sl r (by rw [HP.out]; exact HR.out)).mono ?_
                    rintro e w6 ⟨hEU23, rfl⟩
                    obtain ⟨VA, vn, vc, hV, hV1, hV2⟩ := pick_sl r A5 M.length c5 (some ⟨g1, o1, none⟩) M.length c1
                    rw [hV]
                    have HV1 := hid hV1
                    have HV2 := hid hV2
                    clear hV hV1 hV2
                    have HXU2_3 := hid (HXU2_2.out.trans hEU23)
                    have HZB := hid (HZB.out.ext hEU23)
                    have HO5 := hid (HO5.out.ext hEU23)
                    clear hEU23
                    refine hK.out _ _ (ext5 HC5.out HXU2_3.out) (fun hSU23 => ?_)
                    clear hK K
                    try simp only [Act.put, List.setIfInBounds_toArray, List.set_cons_zero, List.set_cons_succ]
                    refine wpAnyH_takeL (i := 7) (v := ?U2v7x22) rfl (by kernel_rfl) (by kernel_rfl) (by kernel_rfl) (fun _ _ _ h => h) (Or.inl ⟨by rfl, ?U2y7x22⟩) (by assumption) ?U2r7x22
                    case U2y7x22 => first | (intro w hSw; (try dsimp only at hSw); go_simp; done) | (intro w hSw; (try dsimp only at hSw); go_simp; with_reducible rfl)
                    case' U2r7x22 => try simp only [Act.put, List.setIfInBounds_toArray, List.set_cons_zero, List.set_cons_succ]
                    refine wpAnyH_takeL (i := 8) (v := ?U2v8x23) rfl (by kernel_rfl) (by kernel_rfl) (by kernel_rfl) (fun _ _ _ h => h) (Or.inl ⟨by rfl, ?U2y8x23⟩) (by assumption) ?U2r8x23
                    case U2y8x23 => first | (intro w hSw; (try dsimp only at hSw); go_simp; done) | (intro w hSw; (try dsimp only at hSw); go_simp; with_reducible rfl)
                    case' U2r8x23 => try simp only [Act.put, List.setIfInBounds_toArray, List.set_cons_zero, List.set_cons_succ]
                    refine wpAnyH_takeL (i := 9) (v := ?U2v9x24) rfl (by kernel_rfl) (by kernel_rfl) (by kernel_rfl) (fun _ _ _ h => h) (Or.inl ⟨by rfl, ?U2y9x24⟩) (by assumption) ?U2r9x24
                    case U2y9x24 => first | (intro w hSw; (try dsimp only at hSw); go_simp; done) | (intro w hSw; (try dsimp only at hSw); go_simp; with_reducible rfl)
                    case' U2r9x24 => try simp only [Act.put, List.setIfInBounds_toArray, List.set_cons_zero, List.set_cons_succ]
                    refine wpAnyH_ready (rs := [11]) (by kernel_rfl) (by simp) ?_
                    refine (AllReadyH.consL rfl (fun K hK => ?U2b11x25) AllReadyH.nil)
                    case' U2b11x25 =>
                      have HXend := HXU2_3
                      have z0 := HZB.out.c0
                      have z1 := HZB.out.c1
                      have zf0 := HZB.out.fr 0
                      have zf1 := HZB.out.fr 1
                      go_simp
                      refine hK.out _ _ (ext5 HC5.out ((HXU2_3.out.setCell HZB.out.ge _).setCell HZB.out.ge _)) (fun hSU24 => ?_)
                      clear hK K
                      try simp only [Act.put, List.setIfInBounds_toArray, List.set_cons_zero, List.set_cons_succ]
                      refine wpAnyH_takeL (i := 12) (v := ?U2v12x26) rfl (by kernel_rfl) (by kernel_rfl) (by kernel_rfl) (fun _ _ _ h => h) (Or.inl ⟨by rfl, ?U2y12x26⟩) (by assumption) ?U2r12x26
                      case U2y12x26 => first | (intro w hSw; (try dsimp only at hSw); go_simp; done) | (intro w hSw; (try dsimp only at hSw); go_simp; with_reducible rfl)
                      case' U2r12x26 => try simp only [Act.put, List.setIfInBounds_toArray, List.set_cons_zero, List.set_cons_succ]
                      refine wpAnyH_done (by kernel_rfl) ?_ _
                      have HX3 := HXend
                      obtain ⟨W7, hW7, hE7, t0, t1, ho7⟩ := putZ HXend.out HZB.out (Nat.le_refl _) HO5.out (.slice VA vn vc) (.int .i64 ((cl : Int) + 1))
                      rw [hW7]
                      have hge := HZB.out.ge
                      have hbr : b < wr.heap.size := by have := World.block_lt_of_cell? _ _ HM.out.x0; exact this
                      have hbZ : b < aZ := by omega
                      have HM7 := hid (HM.out.ext2 hE7)
                      have HS7 := hid (HS.out.ext2 hE7)
                      have hbr2 : b + 1 + 1 < wr.heap.size := by have := World.block_lt_of_cell? _ _ HS.out.r0; exact this
                      have HSL := hid (ho7.num_sl (S := fun d => d ≠ b ∧ d ≠ b + 1 + 1) (fun d hd => ⟨by omega, by omega⟩))
                      have y0 := HM7.out.x0
                      have y1 := HM7.out.x1
                      have fx0 := HM7.out.fx 0
                      have fx1 := HM7.out.fx 1
                      clear hW7 hE7 ho7 hge x0 x1 q0 q1 q2
                      cases r with
                      | true =>
                        obtain ⟨rfl, rfl, rfl⟩ := HV1.out rfl
                        have HSL3 : Hid (Sl u32R W7 (fun d => d ≠ b ∧ d ≠ b + 1 + 1) (.slice VA (M.set j 0).length vc) (M.set j 0)) := hid (by rw [List.length_set]; exact HSL.out)
                        have HPP := HM7.out.put (cl + 1) HSL3.out
                        rw [List.length_set] at HPP
                        have HP7 := hid HPP
                        clear HPP
                        go_wp2
                        first
                          | go_roundw
                          | refine ⟨?rel, ?measure⟩
                        case rel => exact ⟨j + 1, VA, vc, M.set j 0, cl + 1, by go_num, by omega, by omega, by rw [List.length_set]; exact hM, hid (by rw [List.length_set]; exact HNM.out), hid HP7.out, hid (HS7.out.put _ _), hid (HNX.out _ _ ((redK_hit HX.out hx0 HR.out).trans (by congr 1)))⟩
                        case measure => simp [intOf]; omega
                      | false =>
                        obtain ⟨rfl, rfl, rfl⟩ := HV2.out rfl
                        obtain ⟨W8, hW8, hm8, hs8⟩ : ∃ W8, ((W7.setCell ⟨b, 0, none⟩ (.slice (some ⟨g1, o1, none⟩) M.length vc)).setCell ⟨b, 1, none⟩ (.int .i64 ((cl : Int) + 1))) = W8 ∧ RM b w W8 (some ⟨g1, o1, none⟩) vc M (cl + 1) ∧ RS b q W8 := ⟨_, rfl, HM7.out.put (cl + 1) HM7.out.sl, HS7.out.put _ _⟩
                        go_upto_region 13 with (fail)
                        try rw [hW8]
                        obtain ⟨cl2, hcl2⟩ : ∃ cl2, cl + 1 = cl2 := ⟨_, rfl⟩
                        rw [hcl2] at hm8
                        have HCL2 := hid hcl2
                        have HM8 := hid hm8
                        have HS8 := hid hs8
                        have hc2 : cl2 ≤ 1000 := by omega
                        clear hcl2 hm8 hs8 hW8 y0 y1 fx0 fx1 t0 t1
                        have y0 := HM8.out.x0
                        have y1 := HM8.out.x1
                        obtain ⟨g1', o1', hA, cx8, -⟩ := HM8.out.sl.num_at HX.out
                        cases hA
                        by_cases hx1 : x ≤ 1
                        · have hx1' : ¬ ((x : Int) > 1) := by omega
                          go_wp2
                          first
                            | go_roundw
                            | refine ⟨?rel, ?measure⟩
                          case rel => exact ⟨j + 1, _, vc, M, cl2, by go_num, by omega, hc2, hM, HNM, HM8, HS8, hid (HNX.out _ _ ((redK_one HX.out hx0 HR.out hx1).trans (by have := HCL2.out; congr 1; omega)))⟩
                          case measure => simp [intOf]; omega
                        · have hx1' : (x : Int) > 1 := by omega
                          obtain ⟨y, hy⟩ : ∃ y, x / 2 = y := ⟨_, rfl⟩
                          have HYY := hid hy
                          have hy32 : y < 4294967296 := by omega
                          have hq1 : (x : Int).tdiv 2 = (y : Int) := by rw [Int.tdiv_eq_ediv_of_nonneg (by omega)]; omega
                          have hq2 : IntKind.u32.wrap (y : Int) = (y : Int) := IntWalk.u32_in _ (by omega)
                          have hq3 : (x : Int) / 2 = (y : Int) := by omega
                          have q0 := HS8.out.q0
                          have q1 := HS8.out.q1
                          have q2 := HS8.out.q2
                          have HC6 := hid (And.intro y0 (And.intro y1 (And.intro q0 (And.intro q1 (And.intro q2 cx8)))))
                          have HBW := hid (show b + 1 + 1 < W8.heap.size by have := World.block_lt_of_cell? _ _ HS8.out.r0; exact this)
                          clear hy
                          go_wp2_with fail
                          have HXVU23_0 := hid ((Ext.refl W8).drew)
                          refine wp_region_last 16 (fun w' => w'.cell? ⟨b, 0, none⟩ = some (.slice (some ⟨g1, o1, none⟩) M.length vc) ∧ w'.cell? ⟨b, 1, none⟩ = some (.int .i64 cl2) ∧ w'.cell? ⟨b + 1, 0, none⟩ = some (.int .u32 q.least) ∧ w'.cell? ⟨b + 1, 1, none⟩ = some (.int .i64 q.count) ∧ w'.cell? ⟨b + 1, 2, none⟩ = some (.bool q.pair) ∧ w'.cell? ⟨g1, o1 + j, none⟩ = some (.int .u32 x)) (by kernel_rfl) ⟨y0, y1, q0, q1, q2, cx8⟩ (fun hSVU230 => ?_)
                          refine wpAnyE_takeS (i := 0) (v := ?VU23v0) rfl (by kernel_rfl) (by kernel_rfl) (by kernel_rfl) (by kernel_rfl) (by kernel_rfl) (fun _ _ _ h => h) (Or.inl ⟨by rfl, ?VU23y0⟩) hSVU230 ?VU23r0
                          case VU23y0 => first | (intro w hSw; (try dsimp only at hSw); go_simp; done) | (intro w hSw; (try dsimp only at hSw); go_simp; with_reducible rfl)
                          case' VU23r0 => try simp only [Act.put, List.setIfInBounds_toArray, List.set_cons_zero, List.set_cons_succ]
                          refine wpAnyE_takeS (i := 1) (v := ?VU23v1) rfl (by kernel_rfl) (by kernel_rfl) (by kernel_rfl) (by kernel_rfl) (by kernel_rfl) (fun _ _ _ h => h) (Or.inl ⟨by rfl, ?VU23y1⟩) hSVU230 ?VU23r1
                          case VU23y1 => first | (intro w hSw; (try dsimp only at hSw); go_simp; done) | (intro w hSw; (try dsimp only at hSw); go_simp; with_reducible rfl)
                          case' VU23r1 => try simp only [Act.put, List.setIfInBounds_toArray, List.set_cons_zero, List.set_cons_succ]
                          refine wpAnyE_takeS (i := 2) (v := ?VU23v2) rfl (by kernel_rfl) (by kernel_rfl) (by kernel_rfl) (by kernel_rfl) (by kernel_rfl) (fun _ _ _ h => h) (Or.inl ⟨by rfl, ?VU23y2⟩) hSVU230 ?VU23r2
                          case VU23y2 => first | (intro w hSw; (try dsimp only at hSw); go_simp; done) | (intro w hSw; (try dsimp only at hSw); go_simp; with_reducible rfl)
                          case' VU23r2 => try simp only [Act.put, List.setIfInBounds_toArray, List.set_cons_zero, List.set_cons_succ]
                          refine wpAnyE_takeS (i := 3) (v := ?VU23v3) rfl (by kernel_rfl) (by kernel_rfl) (by kernel_rfl) (by kernel_rfl) (by kernel_rfl) (fun _ _ _ h => h) (Or.inl ⟨by rfl, ?VU23y3⟩) hSVU230 ?VU23r3
                          case VU23y3 => first | (intro w hSw; (try dsimp only at hSw); go_simp; done) | (intro w hSw; (try dsimp only at hSw); go_simp; with_reducible rfl)
                          case' VU23r3 => try simp only [Act.put, List.setIfInBounds_toArray, List.set_cons_zero, List.set_cons_succ]
                          refine wpAnyE_takeS (i := 4) (v := ?VU23v4) rfl (by kernel_rfl) (by kernel_rfl) (by kernel_rfl) (by kernel_rfl) (by kernel_rfl) (fun _ _ _ h => h) (Or.inl ⟨by rfl, ?VU23y4⟩) hSVU230 ?VU23r4
                          case VU23y4 => first | (intro w hSw; (try dsimp only at hSw); go_simp; done) | (intro w hSw; (try dsimp only at hSw); go_simp; with_reducible rfl)
                          case' VU23r4 => try simp only [Act.put, List.setIfInBounds_toArray, List.set_cons_zero, List.set_cons_succ]
                          refine wpAnyE_takeS (i := 5) (v := ?VU23v5) rfl (by kernel_rfl) (by kernel_rfl) (by kernel_rfl) (by kernel_rfl) (by kernel_rfl) (fun _ _ _ h => h) (Or.inl ⟨by rfl, ?VU23y5⟩) hSVU230 ?VU23r5
                          case VU23y5 => first | (intro w hSw; (try dsimp only at hSw); go_simp; done) | (intro w hSw; (try dsimp only at hSw); go_simp; with_reducible rfl)
                          case' VU23r5 => try simp only [Act.put, List.setIfInBounds_toArray, List.set_cons_zero, List.set_cons_succ]
                          refine wpAnyE_takeS (i := 6) (v := ?VU23v6) rfl (by kernel_rfl) (by kernel_rfl) (by kernel_rfl) (by kernel_rfl) (by kernel_rfl) (fun _ _ _ h => h) (Or.inl ⟨by rfl, ?VU23y6⟩) hSVU230 ?VU23r6
                          case VU23y6 => first | (intro w hSw; (try dsimp only at hSw); go_simp; done) | (intro w hSw; (try dsimp only at hSw); go_simp; with_reducible rfl)
                          case' VU23r6 => try simp only [Act.put, List.setIfInBounds_toArray, List.set_cons_zero, List.set_cons_succ]
                          refine wpAnyE_takeS (i := 7) (v := ?VU23v7) rfl (by kernel_rfl) (by kernel_rfl) (by kernel_rfl) (by kernel_rfl) (by kernel_rfl) (fun _ _ _ h => h) (Or.inl ⟨by rfl, ?VU23y7⟩) hSVU230 ?VU23r7
                          case VU23y7 => first | (intro w hSw; (try dsimp only at hSw); go_simp; done) | (intro w hSw; (try dsimp only at hSw); go_simp; with_reducible rfl)
                          case' VU23r7 => try simp only [Act.put, List.setIfInBounds_toArray, List.set_cons_zero, List.set_cons_succ]
                          refine wpAnyE_takeS (i := 8) (v := ?VU23v8) rfl (by kernel_rfl) (by kernel_rfl) (by kernel_rfl) (by kernel_rfl) (by kernel_rfl) (fun _ _ _ h => h) (Or.inl ⟨by rfl, ?VU23y8⟩) hSVU230 ?VU23r8
                          case VU23y8 => first | (intro w hSw; (try dsimp only at hSw); go_simp; done) | (intro w hSw; (try dsimp only at hSw); go_simp; with_reducible rfl)
                          case' VU23r8 => try simp only [Act.put, List.setIfInBounds_toArray, List.set_cons_zero, List.set_cons_succ]
                          refine wpAnyE_takeS (i := 9) (v := ?VU23v9) rfl (by kernel_rfl) (by kernel_rfl) (by kernel_rfl) (by kernel_rfl) (by kernel_rfl) (fun _ _ _ h => h) (Or.inl ⟨by rfl, ?VU23y9⟩) hSVU230 ?VU23r9
                          case VU23y9 => first | (intro w hSw; (try dsimp only at hSw); go_simp; done) | (intro w hSw; (try dsimp only at hSw); go_simp; with_reducible rfl)
                          case' VU23r9 => try simp only [Act.put, List.setIfInBounds_toArray, List.set_cons_zero, List.set_cons_succ]
                          refine wpAnyE_takeS (i := 10) (v := ?VU23v10) rfl (by kernel_rfl) (by kernel_rfl) (by kernel_rfl) (by kernel_rfl) (by kernel_rfl) (fun _ _ _ h => h) (Or.inl ⟨by rfl, ?VU23y10⟩) hSVU230 ?VU23r10
                          case VU23y10 => first | (intro w hSw; (try dsimp only at hSw); go_simp; done) | (intro w hSw; (try dsimp only at hSw); go_simp; with_reducible rfl)
                          case' VU23r10 => try simp only [Act.put, List.setIfInBounds_toArray, List.set_cons_zero, List.set_cons_succ]
                          refine wpAnyE_one (k := 11) (by kernel_rfl) rfl (fun K hK => ?_)
                          go_simp
                          go_at_call 51
                          refine (with_any _ _ (some ⟨g1, o1, none⟩) M.length vc M (HM8.out.sl.ext HXVU23_0.out) hM j y hjM hy32).mono ?_
                          rintro e w9 ⟨hEVU231, A9, c9, rfl, ho9⟩
                          have HO9 := hid (ho9.lower HXVU23_0.out.size)
                          clear ho9
                          have HXVU23_1 := hid (HXVU23_0.out.trans hEVU231)
                          clear hEVU231
                          refine hK.out _ _ (fun _ => ext6 HC6.out HXVU23_1.out) ?_
                          clear hK K
                          try simp only [Act.put, List.setIfInBounds_toArray, List.set_cons_zero, List.set_cons_succ]
                          refine wpAnyE_one (k := 12) (by kernel_rfl) rfl (fun K hK => ?_)
                          go_simp
                          go_at_call 50
                          obtain ⟨VB, vm, vd, k2, r2, hg1, hg2, hcall⟩ := rtry_gen _ q (some ⟨g1, o1, none⟩) A9 M.length vc M.length c9 cl2 hc2 (M.set j y) HO9.out.sl
                          refine hcall.mono ?_
                          rintro e w10 ⟨hEVU232, rfl⟩
                          have HG1 := hid hg1
                          have HG2 := hid hg2
                          clear hg1 hg2 hcall
                          have HXVU23_2 := hid (HXVU23_1.out.trans hEVU232)
                          have HO9 := hid (HO9.out.ext hEVU232)
                          clear hEVU232
                          refine hK.out _ _ (fun _ => ext6 HC6.out HXVU23_2.out) ?_
                          clear hK K
                          try simp only [Act.put, List.setIfInBounds_toArray, List.set_cons_zero, List.set_cons_succ]
                          refine wpAnyE_takeS (i := 13) (v := ?VU23v13) rfl (by kernel_rfl) (by kernel_rfl) (by kernel_rfl) (by kernel_rfl) (by kernel_rfl) (fun _ _ _ h => h) (Or.inl ⟨by rfl, ?VU23y13⟩) (ext6 HC6.out HXVU23_2.out) ?VU23r13
                          case VU23y13 => first | (intro w hSw; (try dsimp only at hSw); go_simp; done) | (intro w hSw; (try dsimp only at hSw); go_simp; with_reducible rfl)
                          case' VU23r13 => try simp only [Act.put, List.setIfInBounds_toArray, List.set_cons_zero, List.set_cons_succ]
                          refine wpAnyE_takeS (i := 14) (v := ?VU23v14) rfl (by kernel_rfl) (by kernel_rfl) (by kernel_rfl) (by kernel_rfl) (by kernel_rfl) (fun _ _ _ h => h) (Or.inl ⟨by rfl, ?VU23y14⟩) (ext6 HC6.out HXVU23_2.out) ?VU23r14
                          case VU23y14 => first | (intro w hSw; (try dsimp only at hSw); go_simp; done) | (intro w hSw; (try dsimp only at hSw); go_simp; with_reducible rfl)
                          case' VU23r14 => try simp only [Act.put, List.setIfInBounds_toArray, List.set_cons_zero, List.set_cons_succ]
                          refine wpAnyE_takeP (i := 15) (v := ?VU23v15) rfl (by kernel_rfl) (by kernel_rfl) (by kernel_rfl) (by decide) (fun _ _ _ h => h) (Or.inl ⟨by rfl, ?VU23y15⟩) (ext6 HC6.out HXVU23_2.out) ?VU23r15
                          case VU23y15 => first | (intro w hSw; (try dsimp only at hSw); go_simp; done) | (intro w hSw; (try dsimp only at hSw); go_simp; with_reducible rfl)
                          case' VU23r15 => try simp only [Act.put, List.setIfInBounds_toArray, List.set_cons_zero, List.set_cons_succ]
                          refine wpAnyE_one (k := 16) (by kernel_rfl) rfl (fun K hK => ?_)
                          have z0 := HM8.out.x0
                          have HM9 := hid (HM8.out.ext2 HXVU23_2.out)
                          have HS9 := hid (HS8.out.ext2 HXVU23_2.out)
                          clear y0 y1 z0
                          have y0 := HM9.out.x0
                          have y1 := HM9.out.x1
                          have fx0 := HM9.out.fx 0
                          have fx1 := HM9.out.fx 1
                          go_simp
                          have HXend := HXVU23_2
                          refine hK.out _ _ (fun h => absurd (show true = false from h) (by simp)) ?_
                          clear hK K
                          try simp only [Act.put, List.setIfInBounds_toArray, List.set_cons_zero, List.set_cons_succ]
                          refine wpAnyE_done (by kernel_rfl) ?_ _
                          have hbw := HBW.out
                          go_wp2
                          rcases Nat.lt_or_ge cl2 1000 with hc9 | hc9
                          · obtain ⟨rfl, hp9, hv1, hv2⟩ := HG2.out hc9
                            have hp9' : P (M.set j (x / 2)) = r2 := by rw [HYY.out, ← HP.out]; exact hp9
                            cases r2 with
                            | true =>
                              obtain ⟨rfl, rfl, rfl⟩ := hv1 rfl
                              have HSL2 := hid (HO9.out.num_sl (S := fun d => d ≠ b ∧ d ≠ b + 1 + 1) (fun d hd => ⟨by omega, by omega⟩))
                              have hsl3 := HSL2.out
                              have hlen : M.length = (M.set j y).length := by rw [List.length_set]
                              rw [hlen] at hsl3
                              have HPP := HM9.out.put (cl2 + 1) hsl3
                              have HPQ := HPP
                              rw [List.length_set] at HPQ
                              first
                                | go_roundw
                                | refine ⟨?rel, ?measure⟩
                              case rel => exact ⟨j + 1, VB, vd, M.set j y, cl2 + 1, by go_num, by omega, by omega, by rw [List.length_set]; exact hM, hid (by rw [List.length_set]; exact HNM.out), hid HPQ, hid (HS9.out.put _ _), hid (HNX.out _ _ ((redK_half HX.out hx0 HR.out hx1 (by have := HCL2.out; omega) hp9').trans (by rw [HYY.out]; have := HCL2.out; congr 1; omega)))⟩
                              case measure => simp [intOf]; omega
                            | false =>
                              obtain ⟨rfl, rfl, rfl⟩ := hv2 rfl
                              have HPP := HM9.out.put (cl2 + 1) HM9.out.sl
                              first
                                | go_roundw
                                | refine ⟨?rel, ?measure⟩
                              case rel => exact ⟨j + 1, _, vd, M, cl2 + 1, by go_num, by omega, by omega, hM, HNM, hid HPP, hid (HS9.out.put _ _), hid (HNX.out _ _ ((redK_miss HX.out hx0 HR.out hx1 (by have := HCL2.out; omega) hp9').trans (by have := HCL2.out; congr 1; omega)))⟩
                              case measure => simp [intOf]; omega
                          · obtain ⟨rfl, rfl, rfl, rfl, rfl⟩ := HG1.out (by omega)
                            have HPP := HM9.out.put 1000 HM9.out.sl
                            first
                              | go_roundw
                              | refine ⟨?rel, ?measure⟩
                            case rel => exact ⟨j + 1, _, vd, M, 1000, by go_num, by omega, by omega, hM, HNM, hid HPP, hid (HS9.out.put _ _), hid (HNX.out _ _ (redK_out HX.out hx0 HR.out hx1 (by have := HCL2.out; omega)))⟩
                            case measure => simp [intOf]; omega
          · have hend : redM P (N - j) M (1000 - cl) j = (M, 1000 - cl) := by
              rcases Nat.lt_or_ge cl 1000 with h | h
              · rw [show N - j = 0 by omega, redM]
              · rw [show 1000 - cl = 0 by omega]; exact redM_end
            have hTe : T = (M, 1000 - cl) := HD.out.symm.trans hend
            subst hTe
            have HCL3 := hid (show ((1000 - (1000 - cl) : Nat) : Int) = (cl : Int) by omega)
            have HSW := hid ((HM.out.sl.keep (w' := (wr.setCell ⟨b + 1 + 1, 0, none⟩ (.slice A1 M.length c1)).setCell ⟨b + 1 + 1, 1, none⟩ (.int .i64 (cl : Nat))) (fun d hd _ => by rw [Below.heap_setCell _ _ _ d hd.2, Below.heap_setCell _ _ _ d hd.2])).all)
            have r0 := HS.out.r0
            have r1 := HS.out.r1
            have fr0 := HS.out.fr 0
            have fr1 := HS.out.fr 1
            have hor : (¬ j < M.length) ∨ (j < M.length ∧ cl = 1000) := by omega
            have HSF := HM
            clear hend hMN hkk
            have HBB := hid HM.out.base
            have HBR := hid (show w.heap.size ≤ b + 1 + 1 by have := HM.out.base; omega)
            rcases hor with h | ⟨h, hc⟩
            case inl =>
              go_wp2
              refine bodyPost_ret (v := .agg #[.slice A1 M.length c1, .int .i64 (cl : Nat)]) (by simp [results, Try.results42, go_sem, World.cell?_setCell_same, World.cell?_setCell_other, r0, r1]) rfl ?_
              refine ⟨(HSF.out.ext.setCell HBR.out _).setCell HBR.out _, A1, c1, ?_, HSW.out⟩
              show _ = Ending.returned (.agg #[.slice A1 M.length c1, .int .i64 ((1000 - (1000 - cl) : Nat) : Int)])
              rw [HCL3.out]
            case inr =>
              have hc' : ¬ ((cl : Int) < 1000) := by omega
              clear hc
              go_wp2
              refine bodyPost_ret (v := .agg #[.slice A1 M.length c1, .int .i64 (cl : Nat)]) (by simp [results, Try.results42, go_sem, World.cell?_setCell_same, World.cell?_setCell_other, r0, r1]) rfl ?_
              refine ⟨(HSF.out.ext.setCell HBR.out _).setCell HBR.out _, A1, c1, ?_, HSW.out⟩
              show _ = Ending.returned (.agg #[.slice A1 M.length c1, .int .i64 ((1000 - (1000 - cl) : Nat) : Int)])
              rw [HCL3.out]
end Go.Proofs.Ytcddmggefmfkkaa
