/- Predecessors of both. -/
import Derived.Test.YtolbnhkdpbdhhaaCfgN
import Derived.Test.YtolbnhkdpbdhhaaCfgR
import Derived.Test.YtolbnhkdpbdhhaaApp
import Derived.Test.YtolbnhkdpbdhhaaReg
import Derived.Test.YtolbnhkdpbdhhaaSplit
namespace Go.Proofs.Ytolbnhkdpbdhhaa
open Go.RowKit Go.Deco
set_option linter.unusedSimpArgs false
set_option linter.unusedVariables false

theorem info_i64 : (Try.prog.info? 3).map (fun i => (i.zero, i.size, i.bytes)) = some (some (.int .i64 0), 1, 8) := by kernel_rfl
/-- The blocks among the first k that lead to an address. -/
def predN (l : List Bs) (t : Nat) : Nat → List Int
  | 0 => []
  | k + 1 => match l[k]? with | none => predN l t k | some x => if x.succ.contains t then predN l t k ++ [(k : Int)] else predN l t k
theorem predN_hit {l : List Bs} {t k : Nat} {x : Bs} (hk : l[k]? = some x) (h : x.succ.contains t = true) : predN l t (k + 1) = predN l t k ++ [(k : Int)] := by rw [predN, hk]; simp only []; rw [if_pos h]
theorem predN_miss {l : List Bs} {t k : Nat} {x : Bs} (hk : l[k]? = some x) (h : x.succ.contains t = false) : predN l t (k + 1) = predN l t k := by rw [predN, hk]; simp only []; rw [if_neg (by rw [h]; simp)]
theorem predN_len (l : List Bs) (t : Nat) : ∀ k, (predN l t k).length ≤ k
  | 0 => by simp [predN]
  | k + 1 => by
    have := predN_len l t k
    rw [predN]
    split
    · omega
    · split
      · simp; omega
      · omega
/-- The blocks that lead to block k. -/
def predsOf (l : List Bs) (k : Int) : List Int := if k < 0 then [] else match l[k.toNat]? with | none => [] | some x => predN l x.addr l.length
def IntsAre (w : World) (m : List Int) (e : Ending) (w' : World) : Prop := Ext w w' ∧ ∃ A c, e = .returned (.slice A m.length c) ∧ Sl i64R w' All (.slice A m.length c) m

set_option maxRecDepth 100000 in
set_option maxHeartbeats 4000000 in
theorem preds_any (w : World) (A : Option Addr) (n c : Nat) (l : List Bs) (hl : Sl bsR w All (.slice A n c) l) (hn : n ≤ 1000000) (k : Int) :
    Calls Try.prog 18 #[.slice A n c, .int .i64 k] w (IntsAre w (predsOf l k)) := by
  obtain ⟨i0, hi, hz0, hz1, hz2⟩ := info_parts info_i64
  have HI := hid hi
  have HZ0 := hid hz0
  have HZ1 := hid hz1
  have HZ2 := hid hz2
  have HLN := hid hl.len
  have hcap := hl.cap
  have HS := hid hl
  obtain ⟨r, hr⟩ : ∃ r, predsOf l k = r := ⟨_, rfl⟩
  rw [hr]
  have HR := hid hr
  clear hi hz0 hz1 hz2 hl hr
  go_enter Try.func18, Try.ntmps18
  by_cases h0 : k < 0
  · have HR2 : Hid (r = []) := hid (by rw [← HR.out]; simp [predsOf, h0])
    go_wp2
    go_ret
    obtain rfl := HR2.out
    exact ⟨Ext.refl _, none, 0, rfl, Sl.nil⟩
  obtain ⟨q, rfl⟩ : ∃ q : Nat, k = q := ⟨k.toNat, by omega⟩
  by_cases h1 : q < n
  case neg =>
    have HR2 : Hid (r = []) := hid (by
      rw [← HR.out]
      unfold predsOf
      rw [if_neg h0, Int.toNat_natCast, List.getElem?_eq_none]
      have := HLN.out
      omega)
    go_wp2
    go_ret
    obtain rfl := HR2.out
    exact ⟨Ext.refl _, none, 0, rfl, Sl.nil⟩
  obtain ⟨x, hx⟩ : ∃ x, l[q]? = some x := ⟨_, List.getElem?_eq_getElem (by have := HLN.out; omega)⟩
  have HR2 : Hid (r = predN l x.addr n) := hid (by
    rw [← HR.out]
    unfold predsOf
    rw [if_neg h0, Int.toNat_natCast, hx, HLN.out])
  have HQ := hid hx
  have H1 := hid h1
  have d1 : decide ((q : Int) < 0) = false := by simp
  have d2 : decide (n ≤ q) = false := by simp; omega
  clear hx h0
  go_wp2
  clear d1 d2
  go_loopw [5, 18] (fun v i wr => ∃ (k : Nat) (A' : Option Addr) (c' : Nat) (M : List Int), k ≤ n ∧ i = .int .i64 k ∧ v = .slice A' M.length c' ∧ Hid (OwnS i64R wr w.heap.size 3 All (.slice A' M.length c') M) ∧ Hid (Ext w wr) ∧ Hid (M = predN l x.addr k)) (fun _ i _ => n - (intOf i).toNat)
  case atStart => exact ⟨0, none, 0, [], by omega, rfl, rfl, hid OwnS.nil, hid (Ext.refl _), hid rfl⟩
  case round =>
    obtain ⟨k, A', c', M, hk, rfl, rfl, HO, HX, HM⟩ := hrel
    have hml : M.length ≤ k := by rw [HM.out]; exact predN_len _ _ _
    by_cases h2 : k < n
    · obtain ⟨y, hy⟩ : ∃ y, l[k]? = some y := ⟨_, List.getElem?_eq_getElem (by have := HLN.out; omega)⟩
      obtain ⟨b, off, A1, c1, A2, c2, A3, c3, rfl, -, hsu, -, -, -, e0, e1, e2, e3, e4⟩ := Sl.bs_at (HS.out.ext HX.out) hy
      obtain ⟨b', off', A1', c1', A2', c2', A3', c3', hA, -, -, -, -, -, f0, -, -, -, -⟩ := Sl.bs_at (HS.out.ext HX.out) HQ.out
      cases hA
      have HY := hid hy
      have HSL := hid hsu
      have HSB := hid (Nat.le_trans hsu.cap.1 hsu.cap.2)
      have hq := H1.out
      have i1 : (0 : Int) ≤ (q : Int) := by omega
      have i2 : (q : Int) < (n : Int) := by omega
      obtain ⟨W1, hW1⟩ : ∃ W1, wr.alloc (.cells #[.int .u32 y.addr, .int .u32 y.end_, .slice A1 y.ins.length c1, .slice A2 y.succ.length c2, .slice A3 y.calls.length c3] 41) = W1 := ⟨_, rfl⟩
      have hE1 : Ext wr W1 := by rw [← hW1]; exact (Ext.refl wr).alloc _
      have g3 : W1.cell? ⟨wr.heap.size, 3, none⟩ = some (.slice A2 y.succ.length c2) := by rw [← hW1]; simp [go_sem]
      have f0' := hE1.cell f0
      have HE1 := hid hE1
      have HC := hid (fun W (hE : Ext wr W) => contains32_any W All A2 y.succ.length c2 y.succ (HSL.out.ext hE) HSB.out x.addr)
      obtain ⟨d, hd⟩ : ∃ d, y.succ.contains x.addr = d := ⟨_, rfl⟩
      rw [hd] at HC
      have HD := hid hd
      clear hy hsu hd hE1
      go_wp2_with fail
      refine wp_region_held_drew (S := (fun w' => w'.cell? ⟨wr.heap.size, 3, none⟩ = some (.slice A2 y.succ.length c2) ∧ w'.cell? ⟨b, off + q * 5, none⟩ = some (.int .u32 x.addr))) (by kernel_rfl) ⟨g3, f0'⟩ (fun hSg1q0 => ?_)
      refine wpAnyH_takeL (i := 0) (v := ?g1qv0) rfl (by kernel_rfl) (by kernel_rfl) (by kernel_rfl) (fun _ _ _ h => h) (Or.inl ⟨by rfl, ?g1qy0⟩) (by assumption) ?g1qr0
      case g1qy0 => first | (intro w hSw; (try dsimp only at hSw); go_simp; done) | (intro w hSw; (try dsimp only at hSw); go_simp; with_reducible rfl)
      case' g1qr0 => try simp only [Act.put, List.setIfInBounds_toArray, List.set_cons_zero, List.set_cons_succ]
      refine wpAnyH_takeL (i := 1) (v := ?g1qv1) rfl (by kernel_rfl) (by kernel_rfl) (by kernel_rfl) (fun _ _ _ h => h) (Or.inl ⟨by rfl, ?g1qy1⟩) (by assumption) ?g1qr1
      case g1qy1 => first | (intro w hSw; (try dsimp only at hSw); go_simp; done) | (intro w hSw; (try dsimp only at hSw); go_simp; with_reducible rfl)
      case' g1qr1 => try simp only [Act.put, List.setIfInBounds_toArray, List.set_cons_zero, List.set_cons_succ]
      refine wpAnyH_takeL (i := 2) (v := ?g1qv2) rfl (by kernel_rfl) (by kernel_rfl) (by kernel_rfl) (fun _ _ _ h => h) (Or.inl ⟨by rfl, ?g1qy2⟩) (by assumption) ?g1qr2
      case g1qy2 => first | (intro w hSw; (try dsimp only at hSw); go_simp; done) | (intro w hSw; (try dsimp only at hSw); go_simp; with_reducible rfl)
      case' g1qr2 => try simp only [Act.put, List.setIfInBounds_toArray, List.set_cons_zero, List.set_cons_succ]
      refine wpAnyH_takeL (i := 3) (v := ?g1qv3) rfl (by kernel_rfl) (by kernel_rfl) (by kernel_rfl) (fun _ _ _ h => h) (Or.inl ⟨by rfl, ?g1qy3⟩) (by assumption) ?g1qr3
      case g1qy3 => first | (intro w hSw; (try dsimp only at hSw); go_simp; done) | (intro w hSw; (try dsimp only at hSw); go_simp; with_reducible rfl)
      case' g1qr3 => try simp only [Act.put, List.setIfInBounds_toArray, List.set_cons_zero, List.set_cons_succ]
      refine wpAnyH_takeL (i := 4) (v := ?g1qv4) rfl (by kernel_rfl) (by kernel_rfl) (by kernel_rfl) (fun _ _ _ h => h) (Or.inl ⟨by rfl, ?g1qy4⟩) (by assumption) ?g1qr4
      case g1qy4 => first | (intro w hSw; (try dsimp only at hSw); go_simp; done) | (intro w hSw; (try dsimp only at hSw); go_simp; with_reducible rfl)
      case' g1qr4 => try simp only [Act.put, List.setIfInBounds_toArray, List.set_cons_zero, List.set_cons_succ]
      refine wpAnyH_takeL (i := 5) (v := ?g1qv5) rfl (by kernel_rfl) (by kernel_rfl) (by kernel_rfl) (fun _ _ _ h => h) (Or.inl ⟨by rfl, ?g1qy5⟩) (by assumption) ?g1qr5
      case g1qy5 => first | (intro w hSw; (try dsimp only at hSw); go_simp; done) | (intro w hSw; (try dsimp only at hSw); go_simp; with_reducible rfl)
      case' g1qr5 => try simp only [Act.put, List.setIfInBounds_toArray, List.set_cons_zero, List.set_cons_succ]
      refine wpAnyH_takeL (i := 6) (v := ?g1qv6) rfl (by kernel_rfl) (by kernel_rfl) (by kernel_rfl) (fun _ _ _ h => h) (Or.inl ⟨by rfl, ?g1qy6⟩) (by assumption) ?g1qr6
      case g1qy6 => first | (intro w hSw; (try dsimp only at hSw); go_simp; done) | (intro w hSw; (try dsimp only at hSw); go_simp; with_reducible rfl)
      case' g1qr6 => try simp only [Act.put, List.setIfInBounds_toArray, List.set_cons_zero, List.set_cons_succ]
      refine wpAnyH_ready (rs := [7]) (by kernel_rfl) (by simp) ?_
      refine AllReadyH.consL rfl (fun K hK => ?_) AllReadyH.nil
      go_simp
      go_at_call 40
      refine (HC.out _ HE1.out.drew).mono ?_
      rintro e w5 ⟨rfl, hw5⟩
      subst hw5
      refine hK.out _ _ ⟨g3, f0'⟩ (fun hSg1q1 => ?_)
      clear hK K
      try simp only [Act.put, List.setIfInBounds_toArray, List.set_cons_zero, List.set_cons_succ]
      refine wpAnyH_done (by kernel_rfl) ?_ _
      have HX1 := hid (HX.out.trans HE1.out.drew)
      have HO1 := hid (HO.out.ext HE1.out.drew)
      clear hW1 e0 e1 e2 e3 e4 f0 g3 f0'
      obtain ⟨W5, hW5⟩ : ∃ W5, W1.drew = W5 := ⟨_, rfl⟩
      rw [hW5] at HX1 HO1 ⊢
      clear hW5
      cases d with
      | true =>
        go_wp2_with (first
          | (at_builtin; refine wpList_app1s rfl (.tmp 31) (.tmp 33) 47 rfl w.heap.size 3 i0 _ 1 8 Try.underlying47 HI.out HZ0.out HZ1.out HZ2.out rfl i64R rfl (.slice A' M.length c') M rfl HO1.out W5.heap.size rfl (k : Int) rfl ⟨rfl, by omega, by omega⟩ (by omega) (by omega) (by exact HX1.out.size) ?_; intro A5 c5 w5 hown5 hg5; have HO5 := hid hown5; have HX5 := hid ((HX1.out.alloc _).grown hg5 (fun k hk => (HO1.out.block _ hk).1)); clear hown5 hg5)
          | fail)
        first
          | go_roundw
          | refine ⟨?rel, ?measure⟩
        case rel => exact ⟨k + 1, A5, c5, M ++ [(k : Int)], by omega, by go_num, by simp, hid (by simpa using HO5.out), HX5, hid (by rw [predN_hit HY.out HD.out, HM.out])⟩
        case measure => simp [intOf]; omega
      | false =>
        go_wp2
        first
          | go_roundw
          | refine ⟨?rel, ?measure⟩
        case rel => exact ⟨k + 1, A', c', M, by omega, by go_num, rfl, HO1, HX1, hid (by rw [predN_miss HY.out HD.out, HM.out])⟩
        case measure => simp [intOf]; omega
    · obtain rfl : k = n := by omega
      have HE : Hid (M = r) := hid (HM.out.trans HR2.out.symm)
      go_wp2
      go_ret
      obtain rfl := HE.out
      exact ⟨HX.out, A', c', rfl, HO.out.sl⟩

set_option maxRecDepth 100000 in
set_option maxHeartbeats 4000000 in
theorem rpreds_any (w : World) (A : Option Addr) (n c : Nat) (l : List Bs) (hl : Sl bsR w All (.slice A n c) l) (hn : n ≤ 1000000) (k : Int) :
    Calls Try.prog 22 #[.slice A n c, .int .i64 k] w (IntsAre w (predsOf l k)) := by
  obtain ⟨i0, hi, hz0, hz1, hz2⟩ := info_parts info_i64
  have HI := hid hi
  have HZ0 := hid hz0
  have HZ1 := hid hz1
  have HZ2 := hid hz2
  have HLN := hid hl.len
  have hcap := hl.cap
  have HS := hid hl
  obtain ⟨r, hr⟩ : ∃ r, predsOf l k = r := ⟨_, rfl⟩
  rw [hr]
  have HR := hid hr
  clear hi hz0 hz1 hz2 hl hr
  go_enter Try.func22, Try.ntmps22
  by_cases h0 : k < 0
  · have HR2 : Hid (r = []) := hid (by rw [← HR.out]; simp [predsOf, h0])
    have n1 : ¬ (0 : Int) ≤ k := by omega
    clear h0
    go_wp2
    go_loop [5, 6] (fun v i => v = .slice none 0 0 ∧ i = .int .i64 0) (fun _ _ => 0)
    case atStart => exact ⟨rfl, rfl⟩
    case round =>
      obtain ⟨rfl, rfl⟩ := hrel
      go_wp2
      go_ret
      obtain rfl := HR2.out
      exact ⟨Ext.refl _, none, 0, rfl, Sl.nil⟩
  obtain ⟨q, rfl⟩ : ∃ q : Nat, k = q := ⟨k.toNat, by omega⟩
  by_cases h1 : q < n
  case neg =>
    have HR2 : Hid (r = []) := hid (by
      rw [← HR.out]
      unfold predsOf
      rw [if_neg h0, Int.toNat_natCast, List.getElem?_eq_none]
      have := HLN.out
      omega)
    go_wp2
    go_loop [5, 6] (fun v i => v = .slice none 0 0 ∧ i = .int .i64 0) (fun _ _ => 0)
    case atStart => exact ⟨rfl, rfl⟩
    case round =>
      obtain ⟨rfl, rfl⟩ := hrel
      go_wp2
      go_ret
      obtain rfl := HR2.out
      exact ⟨Ext.refl _, none, 0, rfl, Sl.nil⟩
  obtain ⟨x, hx⟩ : ∃ x, l[q]? = some x := ⟨_, List.getElem?_eq_getElem (by have := HLN.out; omega)⟩
  have HR2 : Hid (r = predN l x.addr n) := hid (by
    rw [← HR.out]
    unfold predsOf
    rw [if_neg h0, Int.toNat_natCast, hx, HLN.out])
  have HQ := hid hx
  have H1 := hid h1
  clear hx h0
  go_wp2
  go_loopw [5, 6] (fun v i wr => ∃ (k : Nat) (A' : Option Addr) (c' : Nat) (M : List Int), k ≤ n ∧ i = .int .i64 k ∧ v = .slice A' M.length c' ∧ Hid (OwnS i64R wr w.heap.size 3 All (.slice A' M.length c') M) ∧ Hid (Ext w wr) ∧ Hid (M = predN l x.addr k)) (fun _ i _ => n - (intOf i).toNat)
  case atStart => exact ⟨0, none, 0, [], by omega, rfl, rfl, hid OwnS.nil, hid (Ext.refl _), hid rfl⟩
  case round =>
    obtain ⟨k, A', c', M, hk, rfl, rfl, HO, HX, HM⟩ := hrel
    have hml : M.length ≤ k := by rw [HM.out]; exact predN_len _ _ _
    have hq := H1.out
    by_cases h2 : k < n
    · obtain ⟨y, hy⟩ : ∃ y, l[k]? = some y := ⟨_, List.getElem?_eq_getElem (by have := HLN.out; omega)⟩
      obtain ⟨b, off, A1, c1, A2, c2, A3, c3, rfl, -, hsu, -, -, -, e0, e1, e2, e3, e4⟩ := Sl.bs_at (HS.out.ext HX.out) hy
      obtain ⟨b', off', A1', c1', A2', c2', A3', c3', hA, -, -, -, -, -, f0, -, -, -, -⟩ := Sl.bs_at (HS.out.ext HX.out) HQ.out
      cases hA
      have HY := hid hy
      have HSL := hid hsu
      have i1 : (0 : Int) ≤ (q : Int) := by omega
      have i2 : (q : Int) < (n : Int) := by omega
      have i3 : (0 : Int) ≤ (k : Int) := by omega
      have i4 : (k : Int) < (n : Int) := by omega
      have HC := hid (fun W (hE : Ext wr W) => rin_any W A2 y.succ.length c2 y.succ (HSL.out.ext hE) x.addr)
      obtain ⟨d, hd⟩ : ∃ d, y.succ.contains x.addr = d := ⟨_, rfl⟩
      rw [hd] at HC
      have HD := hid hd
      clear hy hsu hd e0 e1 e2 e4
      go_wp2_with fail
      refine wp_region_held_drew (S := (fun w' => w'.cell? ⟨b, off + k * 5 + 3, none⟩ = some (.slice A2 y.succ.length c2) ∧ w'.cell? ⟨b, off + q * 5, none⟩ = some (.int .u32 x.addr))) (by kernel_rfl) ⟨e3, f0⟩ (fun hSg2q0 => ?_)
      refine wpAnyH_takeL (i := 0) (v := ?g2qv0) rfl (by kernel_rfl) (by kernel_rfl) (by kernel_rfl) (fun _ _ _ h => h) (Or.inl ⟨by rfl, ?g2qy0⟩) (by assumption) ?g2qr0
      case g2qy0 => first | (intro w hSw; (try dsimp only at hSw); go_simp; done) | (intro w hSw; (try dsimp only at hSw); go_simp; with_reducible rfl)
      case' g2qr0 => try simp only [Act.put, List.setIfInBounds_toArray, List.set_cons_zero, List.set_cons_succ]
      refine wpAnyH_takeL (i := 1) (v := ?g2qv1) rfl (by kernel_rfl) (by kernel_rfl) (by kernel_rfl) (fun _ _ _ h => h) (Or.inl ⟨by rfl, ?g2qy1⟩) (by assumption) ?g2qr1
      case g2qy1 => first | (intro w hSw; (try dsimp only at hSw); go_simp; done) | (intro w hSw; (try dsimp only at hSw); go_simp; with_reducible rfl)
      case' g2qr1 => try simp only [Act.put, List.setIfInBounds_toArray, List.set_cons_zero, List.set_cons_succ]
      refine wpAnyH_takeL (i := 2) (v := ?g2qv2) rfl (by kernel_rfl) (by kernel_rfl) (by kernel_rfl) (fun _ _ _ h => h) (Or.inl ⟨by rfl, ?g2qy2⟩) (by assumption) ?g2qr2
      case g2qy2 => first | (intro w hSw; (try dsimp only at hSw); go_simp; done) | (intro w hSw; (try dsimp only at hSw); go_simp; with_reducible rfl)
      case' g2qr2 => try simp only [Act.put, List.setIfInBounds_toArray, List.set_cons_zero, List.set_cons_succ]
      refine wpAnyH_takeL (i := 3) (v := ?g2qv3) rfl (by kernel_rfl) (by kernel_rfl) (by kernel_rfl) (fun _ _ _ h => h) (Or.inl ⟨by rfl, ?g2qy3⟩) (by assumption) ?g2qr3
      case g2qy3 => first | (intro w hSw; (try dsimp only at hSw); go_simp; done) | (intro w hSw; (try dsimp only at hSw); go_simp; with_reducible rfl)
      case' g2qr3 => try simp only [Act.put, List.setIfInBounds_toArray, List.set_cons_zero, List.set_cons_succ]
      refine wpAnyH_takeL (i := 4) (v := ?g2qv4) rfl (by kernel_rfl) (by kernel_rfl) (by kernel_rfl) (fun _ _ _ h => h) (Or.inl ⟨by rfl, ?g2qy4⟩) (by assumption) ?g2qr4
      case g2qy4 => first | (intro w hSw; (try dsimp only at hSw); go_simp; done) | (intro w hSw; (try dsimp only at hSw); go_simp; with_reducible rfl)
      case' g2qr4 => try simp only [Act.put, List.setIfInBounds_toArray, List.set_cons_zero, List.set_cons_succ]
      refine wpAnyH_takeL (i := 5) (v := ?g2qv5) rfl (by kernel_rfl) (by kernel_rfl) (by kernel_rfl) (fun _ _ _ h => h) (Or.inl ⟨by rfl, ?g2qy5⟩) (by assumption) ?g2qr5
      case g2qy5 => first | (intro w hSw; (try dsimp only at hSw); go_simp; done) | (intro w hSw; (try dsimp only at hSw); go_simp; with_reducible rfl)
      case' g2qr5 => try simp only [Act.put, List.setIfInBounds_toArray, List.set_cons_zero, List.set_cons_succ]
      refine wpAnyH_takeL (i := 6) (v := ?g2qv6) rfl (by kernel_rfl) (by kernel_rfl) (by kernel_rfl) (fun _ _ _ h => h) (Or.inl ⟨by rfl, ?g2qy6⟩) (by assumption) ?g2qr6
      case g2qy6 => first | (intro w hSw; (try dsimp only at hSw); go_simp; done) | (intro w hSw; (try dsimp only at hSw); go_simp; with_reducible rfl)
      case' g2qr6 => try simp only [Act.put, List.setIfInBounds_toArray, List.set_cons_zero, List.set_cons_succ]
      refine wpAnyH_takeL (i := 7) (v := ?g2qv7) rfl (by kernel_rfl) (by kernel_rfl) (by kernel_rfl) (fun _ _ _ h => h) (Or.inl ⟨by rfl, ?g2qy7⟩) (by assumption) ?g2qr7
      case g2qy7 => first | (intro w hSw; (try dsimp only at hSw); go_simp; done) | (intro w hSw; (try dsimp only at hSw); go_simp; with_reducible rfl)
      case' g2qr7 => try simp only [Act.put, List.setIfInBounds_toArray, List.set_cons_zero, List.set_cons_succ]
      refine wpAnyH_takeL (i := 8) (v := ?g2qv8) rfl (by kernel_rfl) (by kernel_rfl) (by kernel_rfl) (fun _ _ _ h => h) (Or.inl ⟨by rfl, ?g2qy8⟩) (by assumption) ?g2qr8
      case g2qy8 => first | (intro w hSw; (try dsimp only at hSw); go_simp; done) | (intro w hSw; (try dsimp only at hSw); go_simp; with_reducible rfl)
      case' g2qr8 => try simp only [Act.put, List.setIfInBounds_toArray, List.set_cons_zero, List.set_cons_succ]
      refine wpAnyH_takeL (i := 9) (v := ?g2qv9) rfl (by kernel_rfl) (by kernel_rfl) (by kernel_rfl) (fun _ _ _ h => h) (Or.inl ⟨by rfl, ?g2qy9⟩) (by assumption) ?g2qr9
      case g2qy9 => first | (intro w hSw; (try dsimp only at hSw); go_simp; done) | (intro w hSw; (try dsimp only at hSw); go_simp; with_reducible rfl)
      case' g2qr9 => try simp only [Act.put, List.setIfInBounds_toArray, List.set_cons_zero, List.set_cons_succ]
      refine wpAnyH_ready (rs := [10]) (by kernel_rfl) (by simp) ?_
      refine AllReadyH.consL rfl (fun K hK => ?_) AllReadyH.nil
      go_simp
      go_at_call 43
      refine (HC.out _ (Ext.refl wr).drew).mono ?_
      rintro e w5 ⟨rfl, hw5⟩
      subst hw5
      refine hK.out _ _ ⟨e3, f0⟩ (fun hSg2q1 => ?_)
      clear hK K
      try simp only [Act.put, List.setIfInBounds_toArray, List.set_cons_zero, List.set_cons_succ]
      refine wpAnyH_done (by kernel_rfl) ?_ _
      have HX1 := hid HX.out.drew
      have HO1 := hid HO.out.dr
      clear e3 f0
      obtain ⟨W5, hW5⟩ : ∃ W5, wr.drew = W5 := ⟨_, rfl⟩
      rw [hW5] at HX1 HO1 ⊢
      clear hW5
      cases d with
      | true =>
        go_wp2_with (first
          | (at_builtin; refine wpList_app1s rfl (.tmp 34) (.tmp 36) 47 rfl w.heap.size 3 i0 _ 1 8 Try.underlying47 HI.out HZ0.out HZ1.out HZ2.out rfl i64R rfl (.slice A' M.length c') M rfl HO1.out W5.heap.size rfl (k : Int) rfl ⟨rfl, by omega, by omega⟩ (by omega) (by omega) (by exact HX1.out.size) ?_; intro A5 c5 w5 hown5 hg5; have HO5 := hid hown5; have HX5 := hid ((HX1.out.alloc _).grown hg5 (fun k hk => (HO1.out.block _ hk).1)); clear hown5 hg5)
          | fail)
        first
          | go_roundw
          | refine ⟨?rel, ?measure⟩
        case rel => exact ⟨k + 1, A5, c5, M ++ [(k : Int)], by omega, by go_num, by simp, hid (by simpa using HO5.out), HX5, hid (by rw [predN_hit HY.out HD.out, HM.out])⟩
        case measure => simp [intOf]; omega
      | false =>
        go_wp2
        first
          | go_roundw
          | refine ⟨?rel, ?measure⟩
        case rel => exact ⟨k + 1, A', c', M, by omega, by go_num, rfl, HO1, HX1, hid (by rw [predN_miss HY.out HD.out, HM.out])⟩
        case measure => simp [intOf]; omega
    · obtain rfl : k = n := by omega
      have HE : Hid (M = r) := hid (HM.out.trans HR2.out.symm)
      go_wp2
      go_ret
      obtain rfl := HE.out
      exact ⟨HX.out, A', c', rfl, HO.out.sl⟩
end Go.Proofs.Ytolbnhkdpbdhhaa
