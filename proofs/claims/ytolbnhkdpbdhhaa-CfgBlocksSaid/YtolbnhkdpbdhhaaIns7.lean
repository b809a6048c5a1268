/- decompilerref17.insert. -/
import Derived.Test.YtolbnhkdpbdhhaaU32A
import Derived.Test.YtolbnhkdpbdhhaaApp
namespace Go.Proofs.Ytolbnhkdpbdhhaa
open Go.RowKit Go.Deco
set_option linter.unusedSimpArgs false
set_option linter.unusedVariables false

theorem insOf_snoc : ∀ {L : List Nat} {x z : Nat}, (∃ y ∈ L, x ≤ y) → insOf (L ++ [z]) x = insOf L x ++ [z]
  | [], _, _, h => by obtain ⟨y, hy, _⟩ := h; simp at hy
  | y :: r, x, z, h => by
    rw [List.cons_append, insOf, insOf]
    by_cases h1 : y < x
    · rw [if_pos h1, if_pos h1, insOf_snoc, List.cons_append]
      obtain ⟨u, hu, hx⟩ := h
      rcases List.mem_cons.1 hu with rfl | hu
      · omega
      · exact ⟨u, hu, hx⟩
    · rw [if_neg h1, if_neg h1]
      split <;> simp
/-- What the loop has laid. -/
def Ins7 (l : List Nat) (x k : Nat) (d : Bool) (M : List Nat) : Prop := (d = false ∧ M = l.take k ∧ ∀ y ∈ l.take k, y < x) ∨ (d = true ∧ M = insOf (l.take k) x ∧ ∃ y ∈ l.take k, x ≤ y)
theorem ins7_done {l M : List Nat} {x k y : Nat} (h : Ins7 l x k true M) (hk : l[k]? = some y) : Ins7 l x (k + 1) true (M ++ [y]) := by
  rcases h with ⟨h, -⟩ | ⟨-, rfl, u, hu, hx⟩
  · cases h
  · exact .inr ⟨rfl, by rw [take_snoc' hk, insOf_snoc ⟨u, hu, hx⟩], u, by rw [take_snoc' hk]; simp [hu], hx⟩
theorem ins7_less {l M : List Nat} {x k y : Nat} (h : Ins7 l x k false M) (hk : l[k]? = some y) (hy : y < x) : Ins7 l x (k + 1) false (M ++ [y]) := by
  rcases h with ⟨-, rfl, hx⟩ | ⟨h, -⟩
  · refine .inl ⟨rfl, by rw [take_snoc' hk], fun z hz => ?_⟩
    rw [take_snoc' hk] at hz
    rcases List.mem_append.1 hz with hz | hz
    · exact hx z hz
    · rw [List.mem_singleton] at hz
      omega
  · cases h
theorem ins7_same {l M : List Nat} {x k : Nat} (h : Ins7 l x k false M) (hk : l[k]? = some x) : Ins7 l x (k + 1) true (M ++ [x]) := by
  rcases h with ⟨-, rfl, hx⟩ | ⟨h, -⟩
  · refine .inr ⟨rfl, ?_, x, by rw [take_snoc' hk]; simp, Nat.le_refl _⟩
    have hlt := (List.getElem?_eq_some_iff.1 hk).1
    have e : (l.take k).length = k := by rw [List.length_take]; omega
    rw [take_snoc' hk]
    symm
    refine insOf_old (k := k) (fun j y hj hy => ?_) (by rw [List.getElem?_append_right (by omega), e]; simp)
    rw [List.getElem?_append_left (by omega)] at hy
    exact hx y (List.mem_of_getElem? hy)
  · cases h
theorem ins7_new {l M : List Nat} {x k y : Nat} (h : Ins7 l x k false M) (hk : l[k]? = some y) (hy : x < y) : Ins7 l x (k + 1) true (M ++ [x] ++ [y]) := by
  rcases h with ⟨-, rfl, hx⟩ | ⟨h, -⟩
  · refine .inr ⟨rfl, ?_, y, by rw [take_snoc' hk]; simp, by omega⟩
    have hlt := (List.getElem?_eq_some_iff.1 hk).1
    have e : (l.take k).length = k := by rw [List.length_take]; omega
    rw [take_snoc' hk]
    have := insOf_new (l := l.take k ++ [y]) (x := x) (k := k) (fun j z hj hz => by
      rw [List.getElem?_append_left (by omega)] at hz
      exact hx z (List.mem_of_getElem? hz)) (by simp; omega) (fun z hz => by
      rw [List.getElem?_append_right (by omega), e] at hz
      simp at hz
      omega)
    rw [this]
    have e1 : (l.take k ++ [y]).take k = l.take k := by rw [List.take_append_of_le_length (by omega), List.take_of_length_le (by omega)]
    have e2 : (l.take k ++ [y]).drop k = [y] := by rw [List.drop_append_of_le_length (by omega), List.drop_of_length_le (by omega)]; rfl
    rw [e1, e2]
  · cases h
theorem ins7_len {l M : List Nat} {x k : Nat} {d : Bool} (h : Ins7 l x k d M) : M.length ≤ k + 1 := by
  have h1 : (l.take k).length ≤ k := by rw [List.length_take]; omega
  rcases h with ⟨-, rfl, -⟩ | ⟨-, rfl, -⟩
  · omega
  · have := insOf_length (l.take k) x
    omega

set_option maxRecDepth 100000 in
set_option maxHeartbeats 4000000 in
theorem rinsert_any (w : World) (A : Option Addr) (n c : Nat) (l : List Nat) (hl : Sl u32R w All (.slice A n c) l) (hn : n ≤ 1000000) (x : Nat) (hx : x < 4294967296) :
    Calls Try.prog 35 #[.slice A n c, .int .u32 x] w (ListOf w (insOf l x)) := by
  obtain ⟨i0, hi, hz0, hz1, hz2⟩ := info_parts info_w32
  have HI := hid hi
  have HZ0 := hid hz0
  have HZ1 := hid hz1
  have HZ2 := hid hz2
  have HLN := hid hl.len
  have hcap := hl.cap
  have HS := hid hl
  obtain ⟨L, hL⟩ : ∃ L, insOf l x = L := ⟨_, rfl⟩
  rw [hL]
  have HL := hid hL
  clear hi hz0 hz1 hz2 hl hL
  go_enter Try.func35, Try.ntmps35
  go_wp2
  go_loopw [5, 6, 7] (fun v d i wr => ∃ (k : Nat) (A' : Option Addr) (c' : Nat) (M : List Nat) (dn : Bool), k ≤ n ∧ i = .int .i64 k ∧ v = .slice A' M.length c' ∧ d = .bool dn ∧ Hid (OwnS u32R wr w.heap.size 39 All (.slice A' M.length c') M) ∧ Hid (Ext w wr) ∧ Hid (Ins7 l x k dn M)) (fun _ _ i _ => n - (intOf i).toNat)
  case atStart => exact ⟨0, none, 0, [], false, by omega, rfl, rfl, rfl, hid OwnS.nil, hid (Ext.refl _), hid (.inl ⟨rfl, by simp, by simp⟩)⟩
  case round =>
    obtain ⟨k, A', c', M, dn, hk, rfl, rfl, rfl, HO, HX, HR⟩ := hrel
    have hml := ins7_len HR.out
    by_cases h1 : k < n
    · obtain ⟨y, hy⟩ : ∃ y, l[k]? = some y := ⟨_, List.getElem?_eq_getElem (by have := HLN.out; omega)⟩
      obtain ⟨b, off, rfl, c0w, hy32⟩ := Sl.num_at HS.out hy
      have c0 := HX.out.cell c0w
      have C0 := hid c0w
      clear c0w
      have HY := hid hy
      clear hy
      cases dn with
      | true =>
        go_wp2_with (first
          | (at_builtin; refine wpList_app1s rfl (.tmp 34) (.tmp 39) 23 rfl w.heap.size 39 i0 _ 1 4 Try.underlying23 HI.out HZ0.out HZ1.out HZ2.out rfl u32R rfl (.slice A' M.length c') M rfl HO.out wr.heap.size rfl y rfl ⟨rfl, hy32⟩ (by omega) (by omega) (by exact HX.out.size) ?_; intro A5 c5 w5 hown5 hg5; have HO5 := hid hown5; have HX5 := hid ((HX.out.alloc _).grown hg5 (fun k hk => (HO.out.block _ hk).1)); clear hown5 hg5)
          | fail)
        first
          | go_roundw
          | refine ⟨?rel, ?measure⟩
        case rel => exact ⟨k + 1, A5, c5, M ++ [y], true, by omega, by go_num, by simp, rfl, hid (by simpa using HO5.out), HX5, hid (ins7_done HR.out HY.out)⟩
        case measure => simp [intOf]; omega
      | false =>
        by_cases h2 : y < x
        · have HRN := hid (ins7_less HR.out HY.out h2)
          have n1 : ¬ (x : Int) ≤ (y : Int) := by omega
          have H2 := hid h2
          clear h2
          go_wp2_with (first
            | (at_builtin; refine wpList_app1s rfl (.tmp 34) (.tmp 39) 23 rfl w.heap.size 39 i0 _ 1 4 Try.underlying23 HI.out HZ0.out HZ1.out HZ2.out rfl u32R rfl (.slice A' M.length c') M rfl HO.out wr.heap.size rfl y rfl ⟨rfl, hy32⟩ (by omega) (by omega) (by exact HX.out.size) ?_; intro A5 c5 w5 hown5 hg5; have HO5 := hid hown5; have HX5 := hid ((HX.out.alloc _).grown hg5 (fun k hk => (HO.out.block _ hk).1)); clear hown5 hg5)
            | fail)
          first
            | go_roundw
            | refine ⟨?rel, ?measure⟩
          case rel => exact ⟨k + 1, A5, c5, M ++ [y], false, by omega, by go_num, by simp, rfl, hid (by simpa using HO5.out), HX5, HRN⟩
          case measure => simp [intOf]; omega
        · by_cases h3 : y = x
          · subst h3
            have HRN := hid (ins7_same HR.out HY.out)
            have n1 : (y : Int) ≤ (y : Int) := by omega
            have n2 : ¬ (y : Int) < (y : Int) := by omega
            clear h2
            go_wp2_with (first
              | (at_builtin; refine wpList_app1s rfl (.tmp 34) (.tmp 39) 23 rfl w.heap.size 39 i0 _ 1 4 Try.underlying23 HI.out HZ0.out HZ1.out HZ2.out rfl u32R rfl (.slice A' M.length c') M rfl HO.out wr.heap.size rfl y rfl ⟨rfl, hy32⟩ (by omega) (by omega) (by exact HX.out.size) ?_; intro A5 c5 w5 hown5 hg5; have HO5 := hid hown5; have HX5 := hid ((HX.out.alloc _).grown hg5 (fun k hk => (HO.out.block _ hk).1)); clear hown5 hg5)
              | fail)
            first
              | go_roundw
              | refine ⟨?rel, ?measure⟩
            case rel => exact ⟨k + 1, A5, c5, M ++ [y], true, by omega, by go_num, by simp, rfl, hid (by simpa using HO5.out), HX5, HRN⟩
            case measure => simp [intOf]; omega
          · have HRN := hid (ins7_new HR.out HY.out (by omega))
            have n1 : (x : Int) ≤ (y : Int) := by omega
            have n2 : (x : Int) < (y : Int) := by omega
            clear h2 h3
            go_wp2_with (first
              | (at_builtin; refine wpList_app1s rfl (.tmp 30) (.tmp 32) 23 rfl w.heap.size 39 i0 _ 1 4 Try.underlying23 HI.out HZ0.out HZ1.out HZ2.out rfl u32R rfl (.slice A' M.length c') M rfl HO.out wr.heap.size rfl x rfl ⟨rfl, hx⟩ (by omega) (by omega) (by exact HX.out.size) ?_; intro A4 c4 w4 hown5 hg5; have HO4 := hid hown5; have HX4 := hid ((HX.out.alloc _).grown hg5 (fun k hk => (HO.out.block _ hk).1)); have cc4 := HX4.out.cell C0.out; clear hown5 hg5)
              | (at_builtin; refine wpList_app1s rfl (.tmp 34) (.tmp 39) 23 rfl w.heap.size 39 i0 _ 1 4 Try.underlying23 HI.out HZ0.out HZ1.out HZ2.out rfl u32R rfl (.slice A4 (M.length + 1) c4) (M ++ [x]) rfl HO4.out w4.heap.size rfl y rfl ⟨rfl, hy32⟩ (by simp; omega) (by simp; omega) (by exact HX4.out.size) ?_; intro A5 c5 w5 hown5 hg5; have HO5 := hid hown5; have HX5 := hid ((HX4.out.alloc _).grown hg5 (fun k hk => (HO4.out.block _ hk).1)); clear hown5 hg5)
              | fail)
            first
              | go_roundw
              | refine ⟨?rel, ?measure⟩
            case rel => exact ⟨k + 1, A5, c5, M ++ [x] ++ [y], true, by omega, by go_num, by simp, rfl, hid (by simpa using HO5.out), HX5, HRN⟩
            case measure => simp [intOf]; omega
    · obtain rfl : k = n := by omega
      have hr := HR.out
      unfold Ins7 at hr
      rw [List.take_of_length_le (by have := HLN.out; omega)] at hr
      cases dn with
      | true =>
        have HE : Hid (M = L) := hid (by
          rcases hr with ⟨h, -⟩ | ⟨-, h, -⟩
          · cases h
          · exact h.trans HL.out)
        clear hr
        go_wp2
        go_ret
        obtain rfl := HE.out
        exact ⟨HX.out, A', c', rfl, HO.out.sl⟩
      | false =>
        have HE : Hid (M ++ [x] = L) := hid (by
          rcases hr with ⟨-, h, h4⟩ | ⟨h, -⟩
          · rw [h, ← HL.out, insOf_gt h4]
          · cases h)
        clear hr
        go_wp2_with (first
          | (at_builtin; refine wpList_app1s rfl (.tmp 43) (.tmp 45) 23 rfl w.heap.size 39 i0 _ 1 4 Try.underlying23 HI.out HZ0.out HZ1.out HZ2.out rfl u32R rfl (.slice A' M.length c') M rfl HO.out wr.heap.size rfl x rfl ⟨rfl, hx⟩ (by omega) (by omega) (by exact HX.out.size) ?_; intro A5 c5 w5 hown5 hg5; have HO5 := hid hown5; have HX5 := hid ((HX.out.alloc _).grown hg5 (fun k hk => (HO.out.block _ hk).1)); clear hown5 hg5)
          | fail)
        go_ret
        obtain rfl := HE.out
        exact ⟨HX5.out, A5, c5, by simp, by simpa using HO5.out.sl⟩
end Go.Proofs.Ytolbnhkdpbdhhaa
