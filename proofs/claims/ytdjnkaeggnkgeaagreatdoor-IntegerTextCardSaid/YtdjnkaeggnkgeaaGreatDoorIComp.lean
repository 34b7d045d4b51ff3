/- compare of package integer. -/
import Derived.Test.YtdjnkaeggnkgeaaGreatDoorICmp
namespace Go.Proofs.YtdjnkaeggnkgeaaGreatDoor
set_option linter.unusedVariables false
set_option linter.unusedSimpArgs false
open Go.RowKit Go.Shelf
attribute [local go_sem] Oper.semAt_some
theorem results_cell {fn : Func} {t : Tmp} {g : Nat} {x : Int} (h : fn.results = #[.cell t 3]) (tmps : Array Value) (w : World) (ht : tmps.getD t undef = .pointer (some ⟨g, 0, none⟩)) (hB : Bx w g 3 #[.int .i64 x]) :
    (results fn tmps).run Tryz.prog w = .ok (.int .i64 x) w := by
  have h0 := hB.cell 0 rfl
  have ht' : tmps[t]?.getD undef = .pointer (some ⟨g, 0, none⟩) := by simpa using ht
  simp only [results, h]
  simp [go_sem, ht', h0, loadVar]
theorem cmpZ_len {a b : Nat} (h : (Ig.grp a).length ≠ (Ig.grp b).length) : cmpZ ((Ig.grp a).length : Int) ((Ig.grp b).length : Int) = Ig.cmpI a b := by
  rw [Ig.cmp_len h]
  unfold cmpZ
  split
  · rw [if_pos (by omega)]
  · rw [if_pos (by omega), if_neg (by omega)]
theorem cmpZ_at {a b : Nat} (hlen : (Ig.grp a).length = (Ig.grp b).length) (k : Nat) (hk : k < (Ig.grp a).length) (hd : ∀ t, k < t → t < (Ig.grp a).length → Ig.atG (Ig.grp a) t = Ig.atG (Ig.grp b) t) (hne : Ig.atG (Ig.grp a) k ≠ Ig.atG (Ig.grp b) k) : cmpZ (Ig.atG (Ig.grp a) k) (Ig.atG (Ig.grp b) k) = Ig.cmpI a b := by
  have h1 : (Ig.grp a).drop (k + 1) = (Ig.grp b).drop (k + 1) := by
    apply List.ext_getElem (by simp [hlen])
    intro i h1 h2
    simp only [List.length_drop] at h1 h2
    have := hd (k + 1 + i) (by omega) (by omega)
    rw [Ig.atG_lt (by omega), Ig.atG_lt (by omega)] at this
    simpa using this
  rw [Ig.cmp_at hlen k hk h1 hne]
  unfold cmpZ
  split
  · rfl
  · rw [if_pos (by omega)]
theorem cmpI_all {a b : Nat} (hlen : (Ig.grp a).length = (Ig.grp b).length) (h : ∀ t, t < (Ig.grp a).length → Ig.atG (Ig.grp a) t = Ig.atG (Ig.grp b) t) : Ig.cmpI a b = 0 := by
  refine Ig.cmp_same (List.ext_getElem hlen fun i h1 h2 => ?_)
  have := h i h1
  rwa [Ig.atG_lt h1, Ig.atG_lt h2] at this
theorem mem_take_down {n k : Nat} (hk : k ≤ n) : ∀ t : Fin n, t ∈ (allDown n).take k ↔ n - k ≤ t.1 := by
  induction k with
  | zero => intro t; simp
  | succ k ih =>
    intro t
    have hs := down_succ (n := n) (t := n - (k + 1)) (by omega)
    rw [show n - (n - (k + 1)) = k + 1 by omega, show n - (n - (k + 1) + 1) = k by omega] at hs
    rw [hs, List.mem_append, ih (by omega), List.mem_singleton, Fin.ext_iff]
    simp only
    omega
set_option maxRecDepth 100000 in
set_option maxHeartbeats 4000000 in
theorem compare_ne (a b : Nat) (v1 v2 : Value) (w : World) (h1 : NumAt w a v1) (h2 : NumAt w b v2) (la : (Ig.grp a).length ≤ 90000) (lb : (Ig.grp b).length ≤ 90000) (hne : (Ig.grp a).length ≠ (Ig.grp b).length) :
    Calls Tryz.prog 46 #[v1, v2] w fun e w' => e = .returned (.int .i64 (Ig.cmpI a b)) ∧ Below w.heap.size w w' := by
  obtain ⟨A1, c1, rfl, hA1, hn1, hm1⟩ := h1.out
  obtain ⟨A2, c2, rfl, hA2, hn2, hm2⟩ := h2.out
  have he := cmpZ_len hne
  have hb0 := bNew (bNewW w (.cells #[.slice A2 (Ig.grp b).length c2] 48)) (.cells #[.int .i64 0] 3)
  generalize (Ig.grp a).length = n1 at *
  generalize (Ig.grp b).length = n2 at *
  have t0 : decide ((n1 : Int) = (n2 : Int)) = false := by simp; omega
  have t1 : ((n1 : Int) == (n2 : Int)) = false := by simp; omega
  go_enter Tryz.func46, Tryz.ntmps46
  go_wp2_with (go_at_call 72; refine (cmp_any _ _ _).mono ?_; rintro e w' ⟨rfl, rfl⟩)
  have B4 : Bx ((w.alloc (.cells #[.slice A2 n2 c2] 48)).alloc (.cells #[.int .i64 (Ig.cmpI a b)] 3)) (w.heap.size + 1) 3 #[.int .i64 (Ig.cmpI a b)] := by
    have := Bx.mk (w.alloc (.cells #[.slice A2 n2 c2] 48)) 3 #[.int .i64 (Ig.cmpI a b)]
    rwa [alloc_size] at this
  refine bodyPost_ret (results_cell rfl _ _ rfl B4) rfl ⟨rfl, bNew (bNewW w _) _⟩
/-- between two rounds of compare -/
structure CompI (w : World) (a b : Nat) (v2 : Value) (pre : List (Fin (Ig.grp a).length)) (W : World) : Prop where
  hb : Below w.heap.size w W
  le : w.heap.size + 3 ≤ W.heap.size
  B3 : Bx W w.heap.size 48 #[v2]
  B4 : Bx W (w.heap.size + 1) 3 #[.int .i64 0]
  same : ∀ t ∈ pre, Ig.atG (Ig.grp a) t.1 = Ig.atG (Ig.grp b) t.1
/-- the loop left at a group that differs -/
structure CompX (w : World) (a b : Nat) (pre : List (Fin (Ig.grp a).length)) (W : World) : Prop where
  hb : Below w.heap.size w W
  le : w.heap.size + 3 ≤ W.heap.size
  out : ∃ m x, pre = m ++ [x] ∧ (∀ t ∈ m, Ig.atG (Ig.grp a) t.1 = Ig.atG (Ig.grp b) t.1) ∧ Ig.atG (Ig.grp a) x.1 ≠ Ig.atG (Ig.grp b) x.1 ∧ Bx W (w.heap.size + 1) 3 #[.int .i64 (cmpZ (Ig.atG (Ig.grp a) x.1) (Ig.atG (Ig.grp b) x.1))]
theorem CompI.kept {w W W' : World} {a b : Nat} {v2 : Value} {pre : List (Fin (Ig.grp a).length)} {row : Option Nat} (h : CompI w a b v2 pre W) (hg : W.grownBy W' row) (hr : ∀ r, row = some r → w.heap.size ≤ r ∧ ∃ o : Obj, W.heap[r]? = some o ∧ o.isCells = false) : CompI w a b v2 pre W' :=
  ⟨h.hb.grown hg h.hb.size (fun k e => (hr k e).1), Nat.le_trans h.le hg.size, bx_kept h.B3 hg (fun r e => (hr r e).2), bx_kept h.B4 hg (fun r e => (hr r e).2), h.same⟩
theorem CompX.kept {w W W' : World} {a b : Nat} {pre : List (Fin (Ig.grp a).length)} {row : Option Nat} (h : CompX w a b pre W) (hg : W.grownBy W' row) (hr : ∀ r, row = some r → w.heap.size ≤ r ∧ ∃ o : Obj, W.heap[r]? = some o ∧ o.isCells = false) : CompX w a b pre W' := by
  obtain ⟨m, x, h1, h2, h3, h4⟩ := h.out
  exact ⟨h.hb.grown hg h.hb.size (fun k e => (hr k e).1), Nat.le_trans h.le hg.size, m, x, h1, h2, h3, bx_kept h4 hg (fun r e => (hr r e).2)⟩
theorem CompX.answer {w W : World} {a b k : Nat} (hlen : (Ig.grp a).length = (Ig.grp b).length) (hk : k ≤ (Ig.grp a).length) (h : CompX w a b ((allDown (Ig.grp a).length).take k) W) : Bx W (w.heap.size + 1) 3 #[.int .i64 (Ig.cmpI a b)] := by
  obtain ⟨m, x, h1, h2, h3, h4⟩ := h.out
  obtain ⟨j, rfl⟩ : ∃ j, k = j + 1 := ⟨k - 1, by rcases k with _ | k; · simp at h1
                                                 · rfl⟩
  have hs := down_succ (n := (Ig.grp a).length) (t := (Ig.grp a).length - (j + 1)) (by omega)
  rw [show (Ig.grp a).length - ((Ig.grp a).length - (j + 1)) = j + 1 by omega, show (Ig.grp a).length - ((Ig.grp a).length - (j + 1) + 1) = j by omega] at hs
  rw [hs] at h1
  have h5 := List.append_inj_left' h1 rfl
  have h6 : x.1 = (Ig.grp a).length - (j + 1) := by
    have := List.append_inj_right' h1 rfl
    simp only [List.cons.injEq, and_true] at this
    rw [← this]
  rw [cmpZ_at hlen x.1 x.2 (fun t h7 h8 => h2 ⟨t, h8⟩ (by rw [← h5, mem_take_down (by omega)]; simp only; omega)) h3] at h4
  exact h4
set_option maxRecDepth 100000 in
set_option maxHeartbeats 4000000 in
theorem compare_eq (a b : Nat) (v1 v2 : Value) (w : World) (h1 : NumAt w a v1) (h2 : NumAt w b v2) (la : (Ig.grp a).length ≤ 90000) (hl : (Ig.grp a).length = (Ig.grp b).length) :
    Calls Tryz.prog 46 #[v1, v2] w fun e w' => e = .returned (.int .i64 (Ig.cmpI a b)) ∧ Below w.heap.size w w' := by
  obtain ⟨A1, c1, rfl, hA1, hn1, hm1⟩ := h1.out
  obtain ⟨A2, c2, rfl, hA2, hn2, hm2⟩ := h2.out
  have t0 : decide (((Ig.grp a).length : Int) = ((Ig.grp b).length : Int)) = true := by simp; omega
  have t1 : (((Ig.grp a).length : Int) == ((Ig.grp b).length : Int)) = true := by simp; omega
  have t2 : (((Ig.grp a).length : Int) != ((Ig.grp b).length : Int)) = false := by simp; omega
  have hlk : Kp ((Ig.grp a).length = (Ig.grp b).length) := ⟨hl⟩
  clear hl
  refine (callsIn_wide (n := 3)).1 ?_
  refine callsIn_of_wp_marks Tryz.func46 rfl trivial ?_ rfl
  simp only [Tryz.ntmps46, List.size_toArray, List.length_cons, List.length_nil, Nat.reduceAdd, Nat.reduceSub, Array.replicate_succ, Array.replicate_zero, List.push_toArray, List.append_toArray, List.nil_append, List.cons_append]
  gi_wp2_with (refine ⟨trivial, ?_⟩; gi_at_call 60; refine (back_in Fence.wide 2 trivial rfl _ _ _ _).mono ?_; rintro e w' ⟨rfl, rfl⟩)
  have hb0 := bNew (bNew (bNewW w (.cells #[.slice A2 (Ig.grp b).length c2] 48)) (.cells #[.int .i64 0] 3)) (.cells #[.slice A1 (Ig.grp a).length c1] 48)
  have B3 := ((Bx.mk w 48 #[.slice A2 (Ig.grp b).length c2]).new (.cells #[.int .i64 0] 3)).new (.cells #[.slice A1 (Ig.grp a).length c1] 48)
  have B4 := (Bx.mk (w.alloc (.cells #[.slice A2 (Ig.grp b).length c2] 48)) 3 #[.int .i64 0]).new (.cells #[.slice A1 (Ig.grp a).length c1] 48)
  have B7 := Bx.mk ((w.alloc (.cells #[.slice A2 (Ig.grp b).length c2] 48)).alloc (.cells #[.int .i64 0] 3)) 48 #[.slice A1 (Ig.grp a).length c1]
  have hsz : (((w.alloc (.cells #[.slice A2 (Ig.grp b).length c2] 48)).alloc (.cells #[.int .i64 0] 3)).alloc (.cells #[.slice A1 (Ig.grp a).length c1] 48)).heap.size = w.heap.size + 3 := by rw [alloc_size, alloc_size, alloc_size]
  rw [alloc_size] at B4
  rw [alloc_size, alloc_size] at B7
  generalize (((w.alloc (.cells #[.slice A2 (Ig.grp b).length c2] 48)).alloc (.cells #[.int .i64 0] 3)).alloc (.cells #[.slice A1 (Ig.grp a).length c1] 48)) = W0 at *
  refine wpIn_rangeFunc_ownG rfl (by decide) (gf := 78) (lb := #[.pointer (some ⟨w.heap.size + 1 + 1, 0, none⟩)]) rfl trivial (enters_of Tryz.func78 (by kernel_rfl) rfl)
    (back_stops Fence.wide 2 trivial rfl (by decide) (w.heap.size + 1 + 1) w.heap.size A1 c1 (Ig.grp a) (by omega) W0 (by omega) (by omega) (B7.cell 0 rfl) (hA1.below hb0)) KpB.trans (kpB_b (by omega) (by omega)) (Below.refl _ _) (fun _ => rfl)
    (fun pre W => CompI w a b (.slice A2 (Ig.grp b).length c2) pre W) (fun c pre W => c = .ret ∧ CompX w a b pre W)
    (fun pre W W' row hs hg hr => hs.kept hg (fun r e => ⟨by have := (hr r e).1; omega, (hr r e).2⟩))
    (fun c pre W W' row hs hg hr => ⟨hs.1, hs.2.kept hg (fun r e => ⟨by have := (hr r e).1; omega, (hr r e).2⟩)⟩)
    ⟨hb0, by omega, B3, B4, fun t ht => by cases ht⟩
    (fun x => { tmps := #[.slice A1 (Ig.grp a).length c1, .slice A2 (Ig.grp b).length c2, undef, .pointer (some ⟨w.heap.size, 0, none⟩), .pointer (some ⟨w.heap.size + 1, 0, none⟩), .int .i64 (x.1 : Int), .int .i64 (Ig.grp a)[x.1], .slice A1 (Ig.grp a).length c1, .int .i64 ((Ig.grp a).length : Int), .slice A2 (Ig.grp b).length c2, .int .i64 ((Ig.grp b).length : Int), .bool false,
      undef, undef, undef, undef, undef, .slice A1 (Ig.grp a).length c1, .func (.func 78) #[] #[.pointer (some ⟨w.heap.size + 1 + 1, 0, none⟩)], .int .i64 (x.1 : Int), .int .i64 (Ig.grp a)[x.1], undef, undef, undef, undef, undef, undef, undef, undef, undef, undef, undef, undef], defers := [] }) ?assign ?body ?done ?stop
  case assign =>
    intro l x W K hK
    simp only [handed]
    gi_wp2
    exact hK
  case body =>
    rintro l pre x W ⟨hb, hle, B3', B4', hsame⟩ hlt
    have hxb : x.1 < (Ig.grp b).length := by have := x.2; have := hlk.out; omega
    have hA2' := hA2.below hb
    obtain ⟨b2, off, rfl, hbB, hcell⟩ := hA2' (by omega)
    have c0 : W.cell? ⟨b2, off + x.1, none⟩ = some (.int .i64 (Ig.grp b)[x.1]) := by
      have := hcell x.1 _ (List.getElem?_eq_getElem hxb) 0 _ rfl
      simpa using this
    have e1 : Ig.atG (Ig.grp a) x.1 = (Ig.grp a)[x.1] := Ig.atG_lt x.2
    have e2 : Ig.atG (Ig.grp b) x.1 = (Ig.grp b)[x.1] := Ig.atG_lt hxb
    have c3 := B3'.cell 0 rfl
    have c4 := B4'.cell 0 rfl
    have f4 := B4'.frozen 0
    have hxk : Kp (x.1 < (Ig.grp b).length) := ⟨hxb⟩
    by_cases heq : (Ig.grp a)[x.1] = (Ig.grp b)[x.1]
    · have t3 : decide ((Ig.grp a)[x.1] = (Ig.grp b)[x.1]) = true := by simp [heq]
      have hfin : CompI w a b (.slice (some ⟨b2, off, none⟩) (Ig.grp b).length c2) (pre ++ [x]) W := ⟨hb, hle, B3', B4', fun t ht => by
        rcases List.mem_append.1 ht with h | h
        · exact hsame t h
        · rw [List.mem_singleton.1 h, e1, e2, heq]⟩
      gi_wp2
      exact ⟨KeepsFrom.refl _ _, KpB.refl _ _ _, hfin⟩
    · have t3 : decide ((Ig.grp a)[x.1] = (Ig.grp b)[x.1]) = false := by simp [heq]
      gi_wp2_with (refine ⟨by first | trivial | (intro h; cases h), ?_⟩; gi_at_call 72; refine ((callsIn_wide.2 (cmp_any _ _ _)).inRound _).mono ?_; rintro e w' ⟨rfl, rfl⟩)
      exact ⟨(KeepsOthers.setCell _ _ _).from _, rfl, bSet hb (Nat.le_succ _) _, Nat.le_trans hle (KeepsOthers.setCell _ _ _).size, pre, x, rfl, hsame, by rw [e1, e2]; exact heq, by rw [e1, e2]; exact B4'.set 0 _⟩
  case done =>
    rintro D ys W hD rfl ⟨hb, hle, B3', B4', hsame⟩ hK
    have hz : Ig.cmpI a b = 0 := cmpI_all hlk.out (fun t ht => hsame ⟨t, ht⟩ (by simp [allDown]))
    have c4 := B4'.cell 0 rfl
    have f4 := B4'.frozen 0
    gi_wp2
    have hK2 := (Below.heap_setCell W ⟨w.heap.size + 1, 0, none⟩ (.int .i64 0) D (by show D ≠ w.heap.size + 1; omega)).trans hK
    have B42 := B4'.set 0 (.int .i64 0)
    have hb2 := bSet hb (p := ⟨w.heap.size + 1, 0, none⟩) (Nat.le_succ _) (.int .i64 0)
    generalize W.setCell ⟨w.heap.size + 1, 0, none⟩ (.int .i64 0) = W2 at *
    refine ⟨by simp, .inl ⟨_, _, rfl, run_takeDeferred hK2, ?_⟩⟩
    have hg := grownBy_putObj' W2 D (.deferred none)
    have hr : ∀ r, some D = some r → ∃ o : Obj, W2.heap[r]? = some o ∧ o.isCells = false := fun r e => by cases e; exact ⟨_, hK2, rfl⟩
    rw [hz]
    exact ⟨_, results_cell rfl _ _ rfl (bx_kept B42 hg hr), rfl, hb2.trans (belowK_b (w := w) (Nat.le_refl _) W2 D _ _ (by omega) hK2 rfl rfl)⟩
  case stop =>
    rintro D c pre W hD ⟨k, hk, rfl⟩ ⟨rfl, hX⟩ hK
    have hB := hX.answer hlk.out hk
    gi_wp2
    refine ⟨by simp, .inl ⟨_, _, rfl, run_takeDeferred hK, ?_⟩⟩
    have hg := grownBy_putObj' W D (.deferred none)
    have hr : ∀ r, some D = some r → ∃ o : Obj, W.heap[r]? = some o ∧ o.isCells = false := fun r e => by cases e; exact ⟨_, hK, rfl⟩
    exact ⟨_, results_cell rfl _ _ rfl (bx_kept hB hg hr), rfl, hX.hb.trans (belowK_b (w := w) (Nat.le_refl _) W D _ _ (by omega) hK rfl rfl)⟩
theorem compare_any (a b : Nat) (v1 v2 : Value) (w : World) (h1 : NumAt w a v1) (h2 : NumAt w b v2) (la : (Ig.grp a).length ≤ 90000) (lb : (Ig.grp b).length ≤ 90000) :
    Calls Tryz.prog 46 #[v1, v2] w fun e w' => e = .returned (.int .i64 (Ig.cmpI a b)) ∧ Below w.heap.size w w' := by
  by_cases hl : (Ig.grp a).length = (Ig.grp b).length
  · exact compare_eq a b v1 v2 w h1 h2 la hl
  · exact compare_ne a b v1 v2 w h1 h2 la lb hl
end Go.Proofs.YtdjnkaeggnkgeaaGreatDoor