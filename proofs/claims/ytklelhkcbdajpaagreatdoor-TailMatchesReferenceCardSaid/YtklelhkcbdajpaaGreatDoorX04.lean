/- over of package integer: the test of the digit's search. sort.Search with the test of over. one and Valid of package integer. The digits of a long division, written in any order of the indices. between two rounds of over. over of package integer. parse of package integer. -/
import Derived.Test.YtklelhkcbdajpaaGreatDoorX03
import Derived.Laws.MakeOwn
import Derived.Laws.EntriesVeiled
import Derived.Deep.RegionWith
set_option linter.unusedVariables false
set_option linter.unusedSimpArgs false
set_option maxRecDepth 100000
set_option maxHeartbeats 8000000
namespace Go.Proofs.YtklelhkcbdajpaaGreatDoor
open Go.RowKit Go.Shelf
theorem cmpI_pos (a b : Nat) : decide (Ig.cmpI a b > 0) = decide (b < a) := by
  rcases (show a < b ∨ a = b ∨ b < a by omega) with h | h | h
  · rw [Ig.cmpI_lt h]; simp; omega
  · subst h; rw [Ig.cmpI_eq]; simp
  · rw [Ig.cmpI_gt h]; simp; omega
theorem over1_any (b r d : Nat) (v2 v5 : Value) (g8 g5 : Nat) (w : World) (B8 : Bx w g8 146 #[.func (.func 133) #[v2] #[]]) (B5 : Bx w g5 107 #[v5]) (h2 : NumAt w b v2) (h5 : NumAt w r v5) (hd : d < 10000)
    (l2 : (Ig.grp b).length ≤ 20000) (l5 : (Ig.grp r).length ≤ 90000) (l3 : (Ig.grp (b * (d + 1))).length ≤ 90000) :
    Calls Tryz.prog 134 #[.int .i64 d, .pointer (some ⟨g8, 0, none⟩), .pointer (some ⟨g5, 0, none⟩)] w fun e w' => e = .returned (.bool (decide (r < b * (d + 1)))) ∧ Below w.heap.size w w' := by
  go_enter Tryz.func134, Tryz.ntmps134
  go_wp2_with fail
  have hay := fun w1 (hb1 : Below w.heap.size w w1) => (B8.call hb1).cell 0 rfl
  have hby := fun w1 (hb1 : Below w.heap.size w w1) => (B5.call hb1).cell 0 rfl
  have hcp := cmpI_pos (b * (d + 1)) r
  refine wp_region_rgl [Eqv (.func (.func 133) #[v2] #[]), Eqv (.int .i64 d), Eqv (.int .i64 ((d + 1 : Nat) : Int)), (fun v W => NumAt W (b * (d + 1)) v), Eqv v5, Eqv (.int .i64 (Ig.cmpI (b * (d + 1)) r)), Eqv (.bool (decide (r < b * (d + 1)))), Eqv (.bool (decide (r < b * (d + 1))))] 8 12 (by kernel_rfl) rfl rfl (by kernel_rfl) ?_ ?_ ?_
  · simp only [AllS]
    exact ⟨stab_eqv _, stab_eqv _, stab_eqv _, fun v w w' h hb => h.call hb, stab_eqv _, stab_eqv _, stab_eqv _, stab_eqv _, trivial⟩
  · simp only [Users, List.take, List.length]
    refine ⟨?_, ?_, ?_, ?_, ?_, ?_, ?_, ?_, trivial⟩
    all_goals (intro vs w1 hb1 hd0; have c8 := hay w1 hb1; have c5 := hby w1 hb1; have hN2 := h2.call hb1; have hN5 := h5.call hb1; clear hay hby; simp only [putD, Act.put, List.nil_append, List.cons_append, List.setIfInBounds_toArray, List.set_cons_succ, List.set_cons_zero, Nat.reduceAdd])
    · clear hd0; go_wp2; exact ⟨Below.refl _ _, rfl⟩
    · clear hd0; go_wp2; exact ⟨Below.refl _ _, rfl⟩
    · have e : vs 1 = .int .i64 d := hd0 1 rfl
      clear hd0; rw [e]; go_wp2; exact ⟨Below.refl _ _, rfl⟩
    · have e : vs 0 = .func (.func 133) #[v2] #[] := hd0 0 rfl; have e' : vs 2 = .int .i64 ((d + 1 : Nat) : Int) := hd0 2 rfl
      clear hd0
      rw [e, e']
      have hC := by_any b (d + 1) v2 w1 hN2 (by omega) (by omega)
      go_wp2_with fail
      refine hC.mono ?_
      clear hC
      rintro _ w9 ⟨v9, rfl, hn9, hb9⟩
      go_wp2
      exact hn9
    · clear hd0; go_wp2; exact ⟨Below.refl _ _, rfl⟩
    · have e : NumAt w1 (b * (d + 1)) (vs 3) := hd0 3 rfl; have e' : vs 4 = v5 := hd0 4 rfl
      clear hd0
      rw [e']
      have hC := compare_any (b * (d + 1)) r (vs 3) v5 w1 e hN5 (by omega) (by omega)
      go_wp2_with fail
      refine hC.mono ?_
      clear hC
      rintro _ w9 ⟨rfl, hb9⟩
      go_wp2
      rfl
    · have e : vs 5 = .int .i64 (Ig.cmpI (b * (d + 1)) r) := hd0 5 rfl
      clear hd0; rw [e]; go_wp2
      exact ⟨Below.refl _ _, rfl⟩
    · have e : vs 6 = .bool (decide (r < b * (d + 1))) := hd0 6 rfl
      clear hd0; rw [e]; go_wp2; exact ⟨Below.refl _ _, rfl⟩
  · intro vs wa hba hR
    simp only [AllR, Eqv] at hR
    obtain ⟨-, -, -, -, -, -, -, e7, -⟩ := hR
    simp only [List.drop, List.take, List.map, putD, Act.put, List.setIfInBounds_toArray, List.set_cons_succ, List.set_cons_zero, Nat.reduceAdd]
    rw [e7]
    go_wp2
    go_ret
    exact ⟨rfl, hba⟩
end Go.Proofs.YtklelhkcbdajpaaGreatDoor
namespace Go.Proofs.YtklelhkcbdajpaaGreatDoor
open Go.RowKit Go.Shelf
def intN : Value → Nat
  | .int _ x => x.toNat
  | _ => 0
theorem search_any (q : Nat) (g8 g5 : Nat) (w : World) (hq : q ≤ 9999)
    (hf : ∀ (W : World) (d : Nat), Below w.heap.size w W → d < 9999 → Calls Tryz.prog 134 #[.int .i64 d, .pointer (some ⟨g8, 0, none⟩), .pointer (some ⟨g5, 0, none⟩)] W fun e w' => e = .returned (.bool (decide (q ≤ d))) ∧ Below W.heap.size W w') :
    Calls Tryz.prog 135 #[.int .i64 9999, .func (.func 134) #[] #[.pointer (some ⟨g8, 0, none⟩), .pointer (some ⟨g5, 0, none⟩)]] w fun e w' => e = .returned (.int .i64 q) ∧ Below w.heap.size w w' := by
  go_enter Tryz.func135, Tryz.ntmps135
  go_wp2
  go_loopw [5, 6, 7] (fun s5 s6 s7 wr => ∃ (i j : Nat), s5 = .int .i64 i ∧ s6 = .int .i64 j ∧ i ≤ q ∧ q ≤ j ∧ j ≤ 9999 ∧ Below w.heap.size w wr) (fun s5 s6 s7 wr => intN s6 - intN s5)
  case atStart => exact ⟨0, 9999, rfl, rfl, Nat.zero_le _, hq, Nat.le_refl _, Below.refl _ _⟩
  case round =>
    obtain ⟨i, j, rfl, rfl, hi, hj, hj9, hb⟩ := hrel
    by_cases h : i < j
    · have t0 : decide ((i : Int) < (j : Int)) = true := by simp; omega
      have hC := hf wr ((i + j) / 2) hb (by omega)
      have hm1 : i ≤ (i + j) / 2 := by omega
      have hm2 : (i + j) / 2 < j := by omega
      go_wp2_with fail
      have em : ((i : Int) + (j : Int)) / 2 = (((i + j) / 2 : Nat) : Int) := by omega
      simp only [em]
      generalize (i + j) / 2 = m at *
      clear em
      by_cases hqm : q ≤ m
      · have t1 : decide (q ≤ m) = true := by simp; omega
        rw [t1] at hC
        refine hC.mono ?_
        clear hC
        rintro _ w9 ⟨rfl, hb9⟩
        go_wp2
        exact ⟨⟨i, m, rfl, rfl, by omega, by omega, by omega, bCall hb hb9⟩, by simp only [intN]; omega⟩
      · have t1 : decide (q ≤ m) = false := by simp; omega
        rw [t1] at hC
        refine hC.mono ?_
        clear hC
        rintro _ w9 ⟨rfl, hb9⟩
        go_wp2
        exact ⟨⟨m + 1, j, by go_num, rfl, by omega, by omega, by omega, bCall hb hb9⟩, by simp only [intN]; omega⟩
    · have t0 : decide ((i : Int) < (j : Int)) = false := by simp; omega
      obtain rfl : i = q := by omega
      go_wp2
      go_ret
      exact ⟨rfl, hb⟩
end Go.Proofs.YtklelhkcbdajpaaGreatDoor
namespace Go.Proofs.YtklelhkcbdajpaaGreatDoor
open Go.RowKit Go.Shelf
theorem grp_one : Ig.grp 1 = [1] := by
  rw [Ig.grp_pos (by decide), show 1 / 10000 = 0 from rfl, Ig.grp_zero]
  rfl
theorem one_any (w : World) : Calls Tryz.prog 108 #[] w fun e w' => ∃ v, e = .returned v ∧ NumAt w' 1 v ∧ Below w.heap.size w w' := by
  have hB := Bx.mk w 3 #[.int .i64 1]
  have hb := bNewW w (.cells #[.int .i64 1] 3)
  have hN : NumAt (w.alloc (.cells #[.int .i64 1] 3)) 1 (.slice (some ⟨w.heap.size, 0, none⟩) 1 1) := by
    refine ⟨some ⟨w.heap.size, 0, none⟩, 1, by rw [grp_one]; rfl, ?_, by rw [grp_one]; decide, by decide⟩
    rw [grp_one]
    intro _
    refine ⟨w.heap.size, 0, rfl, hB.lt, fun i c hi j u hj => ?_⟩
    obtain rfl : i = 0 := by rcases i with _ | i; · rfl
                             · simp at hi
    obtain rfl : c = 1 := by simpa using hi.symm
    obtain rfl : j = 0 := by rcases j with _ | j; · rfl
                             · simp [intC] at hj
    obtain rfl : u = .int .i64 1 := by simpa [intC] using hj.symm
    exact hB.cell 0 rfl
  go_enter Tryz.func108, Tryz.ntmps108
  go_wp2
  go_ret
  exact ⟨_, rfl, hN, hb⟩
theorem Valid_any (s : List UInt8) (hs : s.length ≤ 1000000) (w : World) :
    Calls Tryz.prog 75 #[.string ⟨s.toArray⟩] w fun e w' => e = .returned (.bool (Ig.validS s)) ∧ Below w.heap.size w w' := by
  have hV := isValid_any s hs w
  go_enter Tryz.func75, Tryz.ntmps75
  go_wp2_with fail
  refine hV.mono ?_
  rintro _ w9 ⟨rfl, hb9⟩
  clear hV
  go_wp2
  go_ret
  exact ⟨rfl, hb9⟩
end Go.Proofs.YtklelhkcbdajpaaGreatDoor
namespace Go.Proofs.YtklelhkcbdajpaaGreatDoor
def dq (l : List Int) (b : Nat) (pre : List (Fin l.length)) : Nat → Nat :=
  (pre.foldl (fun (st : Nat × (Nat → Nat)) t => (st.1 * 10000 + l[t.1].toNat, fun k => if k = t.1 then (st.1 * 10000 + l[t.1].toNat) / b % 10000 else st.2 k)) (0, fun _ => 0)).2
theorem dq_fst (l : List Int) (b : Nat) (pre : List (Fin l.length)) : (pre.foldl (fun (st : Nat × (Nat → Nat)) t => (st.1 * 10000 + l[t.1].toNat, fun k => if k = t.1 then (st.1 * 10000 + l[t.1].toNat) / b % 10000 else st.2 k)) (0, fun _ => 0)).1 = hor l pre := by
  have : ∀ (n : Nat) (pre : List (Fin l.length)), pre.length = n → (pre.foldl (fun (st : Nat × (Nat → Nat)) t => (st.1 * 10000 + l[t.1].toNat, fun k => if k = t.1 then (st.1 * 10000 + l[t.1].toNat) / b % 10000 else st.2 k)) (0, fun _ => 0)).1 = hor l pre := by
    intro n
    induction n with
    | zero => intro pre h; rw [List.length_eq_zero_iff.1 h]; rfl
    | succ n ih =>
      intro pre h
      rcases List.eq_nil_or_concat pre with h0 | ⟨m, t, h0⟩
      · rw [h0]; rfl
      · obtain rfl : pre = m ++ [t] := by simpa using h0
        rw [hor_snoc, ← ih m (by simpa using h), List.foldl_append]
        rfl
  exact this _ _ rfl
theorem dq_nil (l : List Int) (b k : Nat) : dq l b [] k = 0 := rfl
theorem dq_snoc (l : List Int) (b : Nat) (pre : List (Fin l.length)) (t : Fin l.length) (k : Nat) : dq l b (pre ++ [t]) k = if k = t.1 then hor l (pre ++ [t]) / b % 10000 else dq l b pre k := by
  rw [hor_snoc, ← dq_fst l b pre]
  unfold dq
  rw [List.foldl_append]
  rfl
theorem dq_take {l : List Int} (hl : Ig.Gr l) (b : Nat) : ∀ k, k ≤ l.length → ∀ t, l.length - k ≤ t → t < l.length → dq l b ((allDown l.length).take k) t = (Ig.from_ l t).toNat / b % 10000
  | 0, _, t, h1, h2 => by omega
  | k + 1, hk, t, h1, h2 => by
    have hs := down_succ (n := l.length) (t := l.length - (k + 1)) (by omega)
    rw [show l.length - (l.length - (k + 1)) = k + 1 by omega, show l.length - (l.length - (k + 1) + 1) = k by omega] at hs
    rw [hs, dq_snoc, ← hs]
    by_cases h : t = l.length - (k + 1)
    · rw [if_pos (by simpa using h), h, ← hor_take l hl (k + 1) hk, Int.toNat_natCast]
    · rw [if_neg (by simpa using h)]
      exact dq_take hl b k (by omega) t (by omega) h2
theorem dq_gval {l : List Int} (hl : Ig.Gr l) {b : Nat} (hb : 0 < b) : ∀ k, k ≤ l.length → Ig.gval (((List.range l.length).map fun t => ((dq l b (allDown l.length) t : Nat) : Int)).drop (l.length - k)) = (((Ig.from_ l (l.length - k)).toNat / b : Nat) : Int)
  | 0, _ => by
    rw [Nat.sub_zero, Ig.from_end (Nat.le_refl _), List.drop_eq_nil_of_le (by simp)]
    simp [Ig.gval]
  | k + 1, hk => by
    have ih := dq_gval hl hb k (by omega)
    have ht : l.length - (k + 1) < l.length := by omega
    have hd := dq_take hl b l.length (Nat.le_refl _) (l.length - (k + 1)) (by omega) ht
    rw [List.take_of_length_le (by rw [allDown_len]; omega)] at hd
    rw [List.drop_eq_getElem_cons (by simp; omega), show l.length - (k + 1) + 1 = l.length - k by omega]
    simp only [List.getElem_map, List.getElem_range]
    rw [hd]
    show _ + 10000 * Ig.gval _ = _
    rw [ih]
    have h1 := Ig.from_step ht
    rw [show l.length - (k + 1) + 1 = l.length - k by omega] at h1
    have h2 := Ig.from_nonneg hl (l.length - k)
    have h3 := hl l[l.length - (k + 1)] (List.getElem_mem ht)
    generalize Ig.from_ l (l.length - k) = F at *
    generalize Ig.from_ l (l.length - (k + 1)) = G at *
    generalize l[l.length - (k + 1)] = g at *
    obtain ⟨F, rfl⟩ := Int.eq_ofNat_of_zero_le h2
    obtain ⟨g, rfl⟩ := Int.eq_ofNat_of_zero_le h3.1
    obtain rfl : G = ((g + 10000 * F : Nat) : Int) := by omega
    rw [Int.toNat_natCast]
    have h4 : (g + 10000 * F) / b / 10000 = F / b := by
      rw [Nat.div_div_eq_div_mul, Nat.mul_comm b 10000, ← Nat.div_div_eq_div_mul]
      congr 1
      omega
    have h5 : (Int.toNat (Int.ofNat F)) = F := rfl
    have h6 := Nat.mod_add_div ((g + 10000 * F) / b) 10000
    rw [h4] at h6
    first | (rw [h5]; omega) | (simp only [Int.toNat_natCast]; omega)
end Go.Proofs.YtklelhkcbdajpaaGreatDoor
namespace Go.Proofs.YtklelhkcbdajpaaGreatDoor
open Go.RowKit Go.Shelf
def qCells (l : List Int) (b : Nat) (pre : List (Fin l.length)) : Array Value := ((List.range l.length).map fun t => Value.int .i64 ((dq l b pre t : Nat) : Int)).toArray
theorem qCells_set (l : List Int) (b : Nat) (pre : List (Fin l.length)) (x : Fin l.length) : (qCells l b pre).setIfInBounds x.1 (.int .i64 ((hor l (pre ++ [x]) / b % 10000 : Nat) : Int)) = qCells l b (pre ++ [x]) := by
  have h : ((List.range l.length).map fun t => Value.int .i64 ((dq l b pre t : Nat) : Int)).set x.1 (.int .i64 ((hor l (pre ++ [x]) / b % 10000 : Nat) : Int)) = (List.range l.length).map fun t => Value.int .i64 ((dq l b (pre ++ [x]) t : Nat) : Int) := by
    apply List.ext_getElem (by simp)
    intro i h1 h2
    rw [List.getElem_set, List.getElem_map, List.getElem_map, List.getElem_range, dq_snoc]
    by_cases h : x.1 = i
    · rw [if_pos h, if_pos h.symm]
    · rw [if_neg h, if_neg (fun e => h e.symm)]
  unfold qCells
  rw [List.setIfInBounds_toArray, h]
theorem qCells_nil (l : List Int) (b : Nat) : madeCells #[.int .i64 0] l.length = qCells l b [] := by
  apply Array.ext (by simp [madeCells, qCells])
  intro i h1 h2
  simp [madeCells, qCells, dq_nil, Nat.mod_one]
structure OverI (w : World) (a b : Nat) (v2 : Value) (pre : List (Fin (Ig.grp a).length)) (W : World) : Prop where
  hb : Below w.heap.size w W
  le : w.heap.size + 5 ≤ W.heap.size
  B3 : Bx W w.heap.size 107 #[v2]
  Bq : Bx W (w.heap.size + 1) 107 #[.slice (some ⟨w.heap.size + 1 + 1 + 1, 0, none⟩) (Ig.grp a).length (Ig.grp a).length]
  Br : ∃ v, Bx W (w.heap.size + 1 + 1) 107 #[v] ∧ NumAt W (hor (Ig.grp a) pre % b) v
  Bc : Bx W (w.heap.size + 1 + 1 + 1) 3 (qCells (Ig.grp a) b pre)
theorem OverI.kept {w W W' : World} {a b : Nat} {v2 : Value} {pre : List (Fin (Ig.grp a).length)} {row : Option Nat} (h : OverI w a b v2 pre W) (hg : W.grownBy W' row) (hr : ∀ r, row = some r → w.heap.size ≤ r ∧ ∃ o : Obj, W.heap[r]? = some o ∧ o.isCells = false) : OverI w a b v2 pre W' := by
  obtain ⟨v, h1, h2⟩ := h.Br
  exact ⟨h.hb.grown hg h.hb.size (fun k e => (hr k e).1), Nat.le_trans h.le hg.size, bx_kept h.B3 hg (fun r e => (hr r e).2), bx_kept h.Bq hg (fun r e => (hr r e).2), ⟨v, bx_kept h1 hg (fun r e => (hr r e).2), num_kept h2 hg (fun r e => (hr r e).2)⟩, bx_kept h.Bc hg (fun r e => (hr r e).2)⟩
end Go.Proofs.YtklelhkcbdajpaaGreatDoor
namespace Go.Proofs.YtklelhkcbdajpaaGreatDoor
open Go.RowKit Go.Shelf
attribute [local go_sem] Oper.semAt_some
theorem intZ : ∃ i, Tryz.prog.info? 3 = some i ∧ i.zero = some (.int .i64 0) ∧ i.size = 1 ∧ i.bytes = 8 := by
  have h : (Tryz.prog.info? 3).map (fun i => (i.size, i.bytes, i.zero)) = some (1, 8, some (.int .i64 0)) := by kernel_rfl
  cases hi : Tryz.prog.info? 3 with
  | none => rw [hi] at h; cases h
  | some i =>
    rw [hi] at h
    simp only [Option.map_some, Option.some.injEq, Prod.mk.injEq] at h
    exact ⟨i, rfl, h.2.2, h.1, h.2.1⟩
theorem make_nums (n : Nat) (hn : n ≤ 1000000) (w : World) : (Instr.makeSlice 107 (.int .i64 n) (.int .i64 n)).run Tryz.prog w = .ok (.slice (some ⟨w.heap.size, 0, none⟩) n n) (w.alloc (.cells (madeCells #[.int .i64 0] n) 3)) := by
  obtain ⟨i, h1, h2, h3, h4⟩ := intZ
  have h := run_make (P := Tryz.prog) w 107 3 i (.int .i64 0) Tryz.underlying107 h1 h2 .i64 .i64 n n (by omega) (by omega) (by rw [h4]; omega) (by omega)
  rw [h3, Nat.mul_one, Int.toNat_natCast] at h
  exact h
theorem gr_step {r d : Nat} (hd : d < 10000) : Ig.Gr ((d : Int) :: Ig.grp r) := fun g hg => by
  rcases List.mem_cons.1 hg with h | h
  · subst h; omega
  · exact Ig.gr_grp r g h
theorem trim_step {r d : Nat} (hd : d < 10000) : Ig.trimG ((d : Int) :: Ig.grp r) = Ig.grp (d + 10000 * r) := by
  rw [Ig.trimG_of (gr_step hd)]
  have h : Ig.gval ((d : Int) :: Ig.grp r) = ((d + 10000 * r : Nat) : Int) := by
    show (d : Int) + 10000 * Ig.gval (Ig.grp r) = _
    rw [Ig.gval_grp]; omega
  rw [h, Int.toNat_natCast]
theorem grp_step_len {r d m : Nat} (hd : d < 10000) (h : (Ig.grp r).length ≤ m) : (Ig.grp (d + 10000 * r)).length ≤ m + 1 := by
  refine Ig.grp_len ?_
  have h1 := Nat.lt_of_lt_of_le (Ig.grp_lt r) (Nat.pow_le_pow_right (show 0 < 10000 by decide) h)
  rw [Nat.pow_succ]
  generalize 10000 ^ m = p at *
  omega
theorem at_far {W : World} {g o B : Nat} {A : Option Addr} {p : List Int} (h : At 1 intC W B A p) (hne : ∀ b off, A = some ⟨b, off, none⟩ → b ≠ g) (u : Value) : At 1 intC (W.setCell ⟨g, o, none⟩ u) B A p := fun h0 => by
  obtain ⟨b, off, e, hb, hc⟩ := h h0
  exact ⟨b, off, e, hb, fun i c hi j v hj => (cell_block (Below.heap_setCell W ⟨g, o, none⟩ u b (hne b off e))).trans (hc i c hi j v hj)⟩
theorem num_far {W : World} {g o a n c b off : Nat} (h : NumAt W a (.slice (some ⟨b, off, none⟩) n c)) (hne : b ≠ g) (u : Value) : NumAt (W.setCell ⟨g, o, none⟩ u) a (.slice (some ⟨b, off, none⟩) n c) := by
  obtain ⟨A', cap, h1, h2, h3, h4⟩ := h.out
  simp only [Value.slice.injEq] at h1
  obtain ⟨rfl, rfl, rfl⟩ := h1
  exact ⟨_, _, rfl, (at_far h2 (fun b' off' e => by simp only [Option.some.injEq, Addr.mk.injEq] at e; omega) u).more (KeepsOthers.setCell W _ u).size, h3, h4⟩
def digs (l : List Int) (b : Nat) (pre : List (Fin l.length)) : List Int := (List.range l.length).map fun t => ((dq l b pre t : Nat) : Int)
theorem digs_len (l : List Int) (b : Nat) (pre : List (Fin l.length)) : (digs l b pre).length = l.length := by simp [digs]
theorem qCells_at {W : World} {g b : Nat} {l : List Int} {pre : List (Fin l.length)} (h : Bx W g 3 (qCells l b pre)) : At 1 intC W W.heap.size (some ⟨g, 0, none⟩) (digs l b pre) := fun _ => by
  refine ⟨g, 0, rfl, h.lt, fun i c hi j u hj => ?_⟩
  obtain rfl : j = 0 := by rcases j with _ | j; · rfl
                           · simp [intC] at hj
  obtain rfl : u = .int .i64 c := by simpa [intC] using hj.symm
  rw [Nat.zero_add, Nat.mul_one, Nat.add_zero]
  refine h.cell i ?_
  unfold digs at hi
  unfold qCells
  rw [List.getElem?_map] at hi
  rw [List.getElem?_toArray, List.getElem?_map]
  cases hr : (List.range l.length)[i]? with
  | none => rw [hr] at hi; cases hi
  | some t => rw [hr] at hi; simp only [Option.map_some, Option.some.injEq] at hi ⊢; rw [hi]
theorem dq_lt (l : List Int) (b : Nat) : ∀ (n : Nat) (pre : List (Fin l.length)), pre.length = n → ∀ t, dq l b pre t < 10000
  | 0, pre, h, t => by rw [List.length_eq_zero_iff.1 h, dq_nil]; decide
  | n + 1, pre, h, t => by
    rcases List.eq_nil_or_concat pre with h0 | ⟨m, x, h0⟩
    · rw [h0] at h; simp at h
    · obtain rfl : pre = m ++ [x] := by simpa using h0
      rw [dq_snoc]
      split
      · exact Nat.mod_lt _ (by decide)
      · exact dq_lt l b n m (by simpa using h) t
theorem digs_trim (a : Nat) {b : Nat} (hb : 0 < b) : Ig.trimG (digs (Ig.grp a) b (allDown (Ig.grp a).length)) = Ig.grp (a / b) := by
  rw [Ig.trimG_of (fun g hg => by
    obtain ⟨t, _, rfl⟩ := List.mem_map.1 hg
    have := dq_lt (Ig.grp a) b _ (allDown (Ig.grp a).length) rfl t
    omega)]
  have h := dq_gval (Ig.gr_grp a) hb (Ig.grp a).length (Nat.le_refl _)
  rw [Nat.sub_self, List.drop_zero, Ig.from_zero, Ig.gval_grp, Int.toNat_natCast] at h
  unfold digs
  rw [h, Int.toNat_natCast]
theorem results_cells2 {fn : Func} {t u : Tmp} {g g' : Nat} {A A' : Option Addr} {n n' c c' : Nat} (h : fn.results = #[.cell t 107, .cell u 107]) (tmps : Array Value) (w : World) (ht : tmps.getD t undef = .pointer (some ⟨g, 0, none⟩)) (hu : tmps.getD u undef = .pointer (some ⟨g', 0, none⟩))
    (hB : Bx w g 107 #[.slice A n c]) (hB' : Bx w g' 107 #[.slice A' n' c']) :
    (results fn tmps).run Tryz.prog w = .ok (.tuple #[.slice A n c, .slice A' n' c']) w := by
  have h0 := hB.cell 0 rfl
  have h0' := hB'.cell 0 rfl
  have ht' : tmps[t]?.getD undef = .pointer (some ⟨g, 0, none⟩) := by simpa using ht
  have hu' : tmps[u]?.getD undef = .pointer (some ⟨g', 0, none⟩) := by simpa using hu
  simp only [results, h]
  simp [go_sem, ht', hu', h0, h0', loadVar]
theorem over_any (a b : Nat) (v1 v2 : Value) (w : World) (h1 : NumAt w a v1) (h2 : NumAt w b v2) (hb0 : 0 < b) (la : (Ig.grp a).length ≤ 20000) (lb : (Ig.grp b).length ≤ 15000) :
    Calls Tryz.prog 106 #[v1, v2] w fun e w' => ∃ q r, e = .returned (.tuple #[q, r]) ∧ NumAt w' (a / b) q ∧ NumAt w' (a % b) r ∧ Below w.heap.size w w' := by
  obtain ⟨A1, c1, rfl, hA1, hn1, hm1⟩ := h1.out
  obtain ⟨A2, c2, rfl, hA2, hn2, hm2⟩ := h2.out
  have hn9 : (Ig.grp a).length ≤ 20000 := la
  refine (callsIn_wide (n := 3)).1 ?_
  refine callsIn_of_wp_marks Tryz.func106 rfl trivial ?_ rfl
  simp only [Tryz.ntmps106, List.size_toArray, List.length_cons, List.length_nil, Nat.reduceAdd, Nat.reduceSub, Array.replicate_succ, Array.replicate_zero, List.push_toArray, List.append_toArray, List.nil_append, List.cons_append]
  have hmk := make_nums (Ig.grp a).length (by omega)
  gi_wp2_with (refine ⟨trivial, ?_⟩; gi_at_call 128; refine (back_in Fence.wide 2 trivial rfl _ _ _ _).mono ?_; rintro e w' ⟨rfl, rfl⟩)
  obtain ⟨W1, hW1⟩ : ∃ W1, W1 = w.alloc (.cells #[.slice A2 (Ig.grp b).length c2] 107) := ⟨_, rfl⟩
  obtain ⟨W2, hW2⟩ : ∃ W2, W2 = W1.alloc (.cells #[.slice (some ⟨w.heap.size + 1 + 1 + 1, 0, none⟩) (Ig.grp a).length (Ig.grp a).length] 107) := ⟨_, rfl⟩
  obtain ⟨W3, hW3⟩ : ∃ W3, W3 = W2.alloc (.cells #[.slice none 0 0] 107) := ⟨_, rfl⟩
  obtain ⟨W4, hW4⟩ : ∃ W4, W4 = W3.alloc (.cells (madeCells #[.int .i64 0] (Ig.grp a).length) 3) := ⟨_, rfl⟩
  obtain ⟨W0, hW0⟩ : ∃ W0, W0 = W4.alloc (.cells #[.slice A1 (Ig.grp a).length c1] 107) := ⟨_, rfl⟩
  rw [← hW1, ← hW2, ← hW3, ← hW4, ← hW0]
  have s1 : W1.heap.size = w.heap.size + 1 := by rw [hW1, alloc_size]
  have s2 : W2.heap.size = w.heap.size + 1 + 1 := by rw [hW2, alloc_size, s1]
  have s3 : W3.heap.size = w.heap.size + 1 + 1 + 1 := by rw [hW3, alloc_size, s2]
  have s4 : W4.heap.size = w.heap.size + 1 + 1 + 1 + 1 := by rw [hW4, alloc_size, s3]
  have hsz : W0.heap.size = w.heap.size + 5 := by rw [hW0, alloc_size, s4]
  have hb5 : Below w.heap.size w W0 := by rw [hW0, hW4, hW3, hW2, hW1]; exact bNew (bNew (bNew (bNew (bNewW w _) _) _) _) _
  have b1 := Bx.mk w 107 #[.slice A2 (Ig.grp b).length c2]
  have b2 := Bx.mk W1 107 #[.slice (some ⟨w.heap.size + 1 + 1 + 1, 0, none⟩) (Ig.grp a).length (Ig.grp a).length]
  have b3 := Bx.mk W2 107 #[.slice none 0 0]
  have b4 := Bx.mk W3 3 (madeCells #[.int .i64 0] (Ig.grp a).length)
  have B7 := Bx.mk W4 107 #[.slice A1 (Ig.grp a).length c1]
  rw [← hW1] at b1
  rw [← hW2, s1] at b2
  rw [← hW3, s2] at b3
  rw [← hW4, s3, qCells_nil (Ig.grp a) b] at b4
  rw [← hW0, s4] at B7
  have b4' := b4.new (.cells #[.slice A1 (Ig.grp a).length c1] 107)
  have b3' := (b3.new (.cells (madeCells #[.int .i64 0] (Ig.grp a).length) 3)).new (.cells #[.slice A1 (Ig.grp a).length c1] 107)
  have b2' := ((b2.new (.cells #[.slice none 0 0] 107)).new (.cells (madeCells #[.int .i64 0] (Ig.grp a).length) 3)).new (.cells #[.slice A1 (Ig.grp a).length c1] 107)
  have b1' := (((b1.new (.cells #[.slice (some ⟨w.heap.size + 1 + 1 + 1, 0, none⟩) (Ig.grp a).length (Ig.grp a).length] 107)).new (.cells #[.slice none 0 0] 107)).new (.cells (madeCells #[.int .i64 0] (Ig.grp a).length) 3)).new (.cells #[.slice A1 (Ig.grp a).length c1] 107)
  rw [← hW0] at b4'
  rw [← hW4, ← hW0] at b3'
  rw [← hW3, ← hW4, ← hW0] at b2'
  rw [← hW2, ← hW3, ← hW4, ← hW0] at b1'
  have hI0 : OverI w a b (.slice A2 (Ig.grp b).length c2) [] W0 := ⟨hb5, by omega, b1', b2', ⟨_, b3', ⟨none, 0, by simp [hor, Ig.grp_zero], by simp only [hor, List.foldl_nil, Nat.zero_mod, Ig.grp_zero]; exact At.nil, by simp [hor, Ig.grp_zero], Nat.zero_le _⟩⟩, b4'⟩
  clear b1 b2 b3 b4 b1' b2' b3' b4' hW0 hW1 hW2 hW3 hW4 hmk s1 s2 s3 s4 hb5
  refine wpIn_rangeFunc_ownG rfl (by decide) (gf := 148) (lb := #[.pointer (some ⟨w.heap.size + 1 + 1 + 1 + 1, 0, none⟩)]) rfl trivial (enters_of Tryz.func148 (by kernel_rfl) rfl)
    (back_stops Fence.wide 2 trivial rfl (by decide) (w.heap.size + 1 + 1 + 1 + 1) w.heap.size A1 c1 (Ig.grp a) (by omega) W0 (by omega) (by omega) (B7.cell 0 rfl) (hA1.below hI0.hb)) KpB.trans (kpB_b (by omega) (by omega)) (Below.refl _ _) (fun _ => rfl)
    (fun pre W => OverI w a b (.slice A2 (Ig.grp b).length c2) pre W) (fun _ _ _ => False)
    (fun pre W W' row hs hg hr => hs.kept hg (fun r e => ⟨by have := (hr r e).1; omega, (hr r e).2⟩))
    (fun _ _ _ _ _ hs _ _ => hs)
    hI0
    (fun x => { tmps := #[.slice A1 (Ig.grp a).length c1, .slice A2 (Ig.grp b).length c2, undef, .pointer (some ⟨w.heap.size, 0, none⟩), .pointer (some ⟨w.heap.size + 1, 0, none⟩), .pointer (some ⟨w.heap.size + 1 + 1, 0, none⟩), .int .i64 (x.1 : Int), .int .i64 (Ig.grp a)[x.1], undef, undef, .slice A1 (Ig.grp a).length c1, .int .i64 ((Ig.grp a).length : Int), .slice (some ⟨w.heap.size + 1 + 1 + 1, 0, none⟩) (Ig.grp a).length (Ig.grp a).length,
      .slice A1 (Ig.grp a).length c1, .func (.func 148) #[] #[.pointer (some ⟨w.heap.size + 1 + 1 + 1 + 1, 0, none⟩)], .int .i64 (x.1 : Int), .int .i64 (Ig.grp a)[x.1], undef, undef, undef, undef, undef, undef, undef, undef, undef, undef, undef, undef, undef, undef, undef, undef, undef, undef, undef, undef, undef, undef, undef, undef], defers := [] }) ?assign ?body ?done ?stop
  case assign =>
    intro l x W K hK
    simp only [handed]
    gi_wp2
    exact hK
  case body =>
    rintro l pre x W ⟨hb, hle, B3, Bq, ⟨v, Br, hNr⟩, Bc⟩ hlt
    have hgx := Ig.gr_grp a (Ig.grp a)[x.1] (List.getElem_mem x.2)
    obtain ⟨d, hd⟩ := Int.eq_ofNat_of_zero_le hgx.1
    have hd9 : d < 10000 := by omega
    have hsn : Kp (hor (Ig.grp a) (pre ++ [x]) = hor (Ig.grp a) pre * 10000 + d) := ⟨by rw [hor_snoc, hd, Int.toNat_natCast]⟩
    simp only [hd]
    generalize hor (Ig.grp a) pre = y at *
    obtain ⟨A5, c5, rfl, hA5, hn5, hm5⟩ := hNr.out
    have hyl : (Ig.grp (y % b)).length ≤ 15000 := Nat.le_trans (Ig.grp_len (Nat.lt_of_lt_of_le (Nat.mod_lt y hb0) (Nat.le_of_lt (Ig.grp_lt b)))) lb
    have B51 := Br.new (.cells #[.int .i64 d] 3)
    have hcell1 := B51.cell 0 rfl
    have hP : Src Tryz.prog 1 107 (.slice A5 (Ig.grp (y % b)).length c5) (Ig.grp (y % b)).length ((Ig.grp (y % b)).flatMap intC) (W.alloc (.cells #[.int .i64 d] 3)) := At.src (f := intC) (size := 1) (e := 3) (fun _ => rfl) (fun c u hu => by simp [intC] at hu; subst hu; rfl) Tryz.underlying107 (hA5.below (bNewW W _)) c5
    gi_wp2_with (gi_at_builtin; refine wpListIn_of _ _ _ (by kernel_rfl) ?_; refine wpList_append_nums rfl (.tmp 18) (.tmp 19) rfl W.heap.size 1 1 (Ig.grp (y % b)).length [.int .i64 d] ((Ig.grp (y % b)).flatMap intC) _ _ rfl rfl ⟨W.heap.size, _, rfl, Nat.le_refl _, Nat.le_refl _, Bx.mk _ _ _, rfl, rfl⟩ (by rw [alloc_size]; omega) hP (by decide) (by omega) ?_; intro v' w' cap' e1 e2 e3 e4)
    have hb7 := (bNewW W (.cells #[.int .i64 d] 3)).trans ((e2 trivial).mono (by rw [alloc_size]; omega))
    have hlen : 1 + (Ig.grp (y % b)).length = ((d : Int) :: Ig.grp (y % b)).length := by rw [List.length_cons]; omega
    have hfl : [Value.int .i64 d] ++ (Ig.grp (y % b)).flatMap intC = ((d : Int) :: Ig.grp (y % b)).flatMap intC := rfl
    rw [hlen, hfl] at e3
    obtain ⟨g6, hv6, hg6⟩ : ∃ g6, v' = .slice (some ⟨g6, 0, none⟩) ((d : Int) :: Ig.grp (y % b)).length cap' ∧ W.heap.size ≤ g6 := by obtain ⟨g7, _, h, h7, _⟩ := e3; exact ⟨g7, h, h7⟩
    obtain ⟨A6, hv6', hA6, hcap6⟩ := RowC.at (f := intC) (size := 1) (fun _ => rfl) e3
    obtain rfl : A6 = some ⟨g6, 0, none⟩ := by rw [hv6] at hv6'; simp only [Value.slice.injEq] at hv6'; exact hv6'.1.symm
    subst hv6
    clear hv6'
    have hT := trimmed_any ((d : Int) :: Ig.grp (y % b)) (some ⟨g6, 0, none⟩) cap' w' hA6 hcap6 (by rw [← hlen]; omega)
    have Br7 := Br.call hb7
    have hce7 := Br7.cell 0 rfl
    have hfr7 := Br7.frozen 0
    clear hlen hfl hP hcell1 B51 e1 e2
    have hN6 : NumAt w' (d + 10000 * (y % b)) (.slice (some ⟨g6, 0, none⟩) (Ig.trimG ((d : Int) :: Ig.grp (y % b))).length cap') := num_of hA6 hcap6 e4 ⟨trim_step hd9⟩
    generalize (Ig.trimG ((d : Int) :: Ig.grp (y % b))).length = n6 at *
    go_wp2_with (go_at_call 132; refine hT.mono ?_; rintro e w9 ⟨rfl, rfl⟩)
    have hb8 := bSet (bCall hb hb7) (p := ⟨w.heap.size + 1 + 1, 0, none⟩) (by show w.heap.size ≤ w.heap.size + 1 + 1; omega) (.slice (some ⟨g6, 0, none⟩) n6 cap')
    have B38 := (B3.call hb7).far (p := ⟨w.heap.size + 1 + 1, 0, none⟩) (by simp; omega) (.slice (some ⟨g6, 0, none⟩) n6 cap')
    have Bq8 := (Bq.call hb7).far (p := ⟨w.heap.size + 1 + 1, 0, none⟩) (by simp) (.slice (some ⟨g6, 0, none⟩) n6 cap')
    have Bc8 := (Bc.call hb7).far (p := ⟨w.heap.size + 1 + 1, 0, none⟩) (by simp) (.slice (some ⟨g6, 0, none⟩) n6 cap')
    have Br8 : Bx (w'.setCell ⟨w.heap.size + 1 + 1, 0, none⟩ (.slice (some ⟨g6, 0, none⟩) n6 cap')) (w.heap.size + 1 + 1) 107 #[.slice (some ⟨g6, 0, none⟩) n6 cap'] := Br7.set 0 _
    have hN8 := num_set Br7 hN6 (.slice (some ⟨g6, 0, none⟩) n6 cap')
    have hkf8 := (keeps_below hb7 W0.heap.size).trans ((KeepsOthers.setCell w' ⟨w.heap.size + 1 + 1, 0, none⟩ (.slice (some ⟨g6, 0, none⟩) n6 cap')).from W0.heap.size)
    have hkp8 : KpB w.heap.size (w.heap.size + 1 + 1 + 1 + 1) W (w'.setCell ⟨w.heap.size + 1 + 1, 0, none⟩ (.slice (some ⟨g6, 0, none⟩) n6 cap')) := KpB.trans ⟨hb7.mono (by omega), hb7.block _ (by omega)⟩ ⟨(Below.refl _ _).setCell (by show w.heap.size ≤ w.heap.size + 1 + 1; omega) _, Below.heap_setCell _ _ _ _ (by simp; omega)⟩
    clear hT hce7 hfr7 Br7 hb7 hN6 hA6 hcap6 e3 e4
    generalize w'.setCell ⟨w.heap.size + 1 + 1, 0, none⟩ (.slice (some ⟨g6, 0, none⟩) n6 cap') = W8 at *
    have hst := Ig.div_step (R := y) hb0 hd9
    have hsn2 : Kp (hor (Ig.grp a) (pre ++ [x]) / b % 10000 = (d + 10000 * (y % b)) / b) := ⟨by rw [hsn.out, show y * 10000 + d = d + 10000 * y by omega, hst.2.1, Nat.add_mul_mod_self_left, Nat.mod_eq_of_lt hst.1]⟩
    have hsn3 : Kp (hor (Ig.grp a) (pre ++ [x]) % b = (d + 10000 * (y % b)) - b * ((d + 10000 * (y % b)) / b)) := ⟨by rw [hsn.out, show y * 10000 + d = d + 10000 * y by omega, hst.2.2]; exact Nat.mod_eq_sub_mul_div⟩
    have hqle : b * ((d + 10000 * (y % b)) / b) ≤ d + 10000 * (y % b) := Nat.mul_div_le _ _
    have hq9 : (d + 10000 * (y % b)) / b ≤ 9999 := by have := hst.1; omega
    have hRl : (Ig.grp (d + 10000 * (y % b))).length ≤ 15000 + 1 := grp_step_len hd9 hyl
    have hdf := fun e => Ig.div_found (R := d + 10000 * (y % b)) (d := e) hb0
    clear hst hsn hyl
    generalize d + 10000 * (y % b) = R at *
    generalize R / b = q at *
    have hbN : NumAt W8 b (.slice A2 (Ig.grp b).length c2) := ⟨A2, c2, rfl, (hA2.below hb8).more hb8.size, hn2, hm2⟩
    have hs8 : w.heap.size + 1 + 1 + 1 + 1 < W8.heap.size := Nat.lt_of_lt_of_le (by omega) hkp8.1.size
    obtain ⟨W9, hW9⟩ : ∃ W9, W9 = W8.alloc (.cells #[.func (.func 133) #[.slice A2 (Ig.grp b).length c2] #[]] 146) := ⟨_, rfl⟩
    have hbn := bNewW W8 (.cells #[.func (.func 133) #[.slice A2 (Ig.grp b).length c2] #[]] 146)
    have B89 := Bx.mk W8 146 #[.func (.func 133) #[.slice A2 (Ig.grp b).length c2] #[]]
    rw [← hW9] at hbn B89
    have k3 := B38.cell 0 rfl
    gi_wp2
    rw [← hW9]
    have hb9 := bCall hb8 hbn
    have hkf9 := hkf8.trans (keeps_below hbn W0.heap.size)
    have hkp9 : KpB w.heap.size (w.heap.size + 1 + 1 + 1 + 1) W W9 := KpB.trans hkp8 ⟨hbn.mono (by omega), hbn.block _ hs8⟩
    replace B38 := B38.call hbn
    replace Bq8 := Bq8.call hbn
    replace Br8 := Br8.call hbn
    replace Bc8 := Bc8.call hbn
    replace hN8 := hN8.call hbn
    replace hbN := hbN.call hbn
    have h98 : W8.heap.size < W9.heap.size := by rw [hW9, alloc_size]; omega
    clear hb8 hkf8 hkp8 k3 hbn hW9
    generalize W8.heap.size = g8 at *
    have hl3 : ∀ e, e < 10000 → (Ig.grp (b * (e + 1))).length ≤ 90000 := fun e he => Nat.le_trans (grp_mul_len (n := 2) lb (Nat.lt_of_lt_of_le (show e + 1 < 10002 by omega) (by decide))) (by omega)
    have hf := fun (W' : World) (e : Nat) (hW : Below W9.heap.size W9 W') (he : e < 9999) => over1_any b R e (.slice A2 (Ig.grp b).length c2) (.slice (some ⟨g6, 0, none⟩) n6 cap') g8 (w.heap.size + 1 + 1) W' (B89.call hW) (Br8.call hW) (hbN.call hW) (hN8.call hW) (by omega) (by omega) (by omega) (hl3 e (by omega))
    have hdq : ∀ e, decide (R < b * (e + 1)) = decide (q ≤ e) := fun e => by
      have := hdf e
      rcases Nat.lt_or_ge e q with h | h
      · rw [decide_eq_false (by omega), decide_eq_false (by omega)]
      · rw [decide_eq_true (by omega), decide_eq_true (by omega)]
    simp only [hdq] at hf
    clear hl3 hdf hdq
    obtain ⟨v6, hv6⟩ : ∃ v6, v6 = Value.slice (some ⟨g6, 0, none⟩) n6 cap' := ⟨_, rfl⟩
    have hx20 : x.1 < (qCells (Ig.grp a) b pre).size := by simp [qCells]
    have hxn := x.2
    have cq := fun w1 (hb1 : Below W9.heap.size W9 w1) => (hb1.cell (p := ⟨w.heap.size + 1, 0, none⟩) Bq8.lt).trans (Bq8.cell 0 rfl)
    refine wpIn_region_rgl [Eqv (.slice (some ⟨w.heap.size + 1 + 1 + 1, 0, none⟩) (Ig.grp a).length (Ig.grp a).length), Eqv (.int .i64 (x.1 : Int)), Eqv (.func (.func 134) #[] #[.pointer (some ⟨g8, 0, none⟩), .pointer (some ⟨w.heap.size + 1 + 1, 0, none⟩)]), Eqv (.int .i64 (q : Int)), Eqv (.pointer (some ⟨w.heap.size + 1 + 1 + 1, x.1, none⟩))] 5 41 (by kernel_rfl) (by kernel_rfl) rfl rfl (by kernel_rfl) ?_ ?_ ?_
    · simp only [AllS]
      exact ⟨stab_eqv _, stab_eqv _, stab_eqv _, stab_eqv _, stab_eqv _, trivial⟩
    · simp only [Users, List.take, List.length]
      refine ⟨?_, ?_, ?_, ?_, ?_, trivial⟩
      all_goals (intro vs w1 hb1 hd; have c3 := cq w1 hb1; clear cq; simp only [putD, Act.put, List.nil_append, List.cons_append, List.setIfInBounds_toArray, List.set_cons_succ, List.set_cons_zero, Nat.reduceAdd])
      · clear hd hf; go_wp2; exact ⟨Below.refl _ _, rfl⟩
      · clear hd hf; go_wp2; exact ⟨Below.refl _ _, rfl⟩
      · clear hd hf; go_wp2; exact ⟨Below.refl _ _, rfl⟩
      · have h2 : vs 2 = .func (.func 134) #[] #[.pointer (some ⟨g8, 0, none⟩), .pointer (some ⟨w.heap.size + 1 + 1, 0, none⟩)] := hd 2 rfl
        have hC := search_any q g8 (w.heap.size + 1 + 1) w1 hq9 (fun W' e hW he => hf W' e (bCall hb1 hW) he)
        clear hd hf
        rw [h2]
        go_wp2_with fail
        refine hC.mono ?_
        clear hC
        rintro _ w9 ⟨rfl, hb9⟩
        go_wp2
        rfl
      · have h0 : vs 0 = .slice (some ⟨w.heap.size + 1 + 1 + 1, 0, none⟩) (Ig.grp a).length (Ig.grp a).length := hd 0 rfl
        have h1 : vs 1 = .int .i64 (x.1 : Int) := hd 1 rfl
        clear hd hf
        rw [h0, h1]
        go_wp2
        exact ⟨Below.refl _ _, rfl⟩
    · clear cq hf
      intro vs wa hba hR
      simp only [AllR, Eqv] at hR
      obtain ⟨-, -, -, e3, e4, -⟩ := hR
      simp only [List.drop, List.take, List.map, putD, Act.put, List.setIfInBounds_toArray, List.set_cons_succ, List.set_cons_zero, Nat.reduceAdd]
      rw [e3, e4]
      generalize vs 0 = z0, vs 1 = z1, vs 2 = z2
      clear e3 e4
      replace B38 := B38.call hba
      replace Bq8 := Bq8.call hba
      replace Br8 := Br8.call hba
      replace Bc8 := Bc8.call hba
      replace B89 := B89.call hba
      replace hN8 := hN8.call hba
      replace hbN := hbN.call hba
      replace hb9 := bCall hb9 hba
      replace hkf9 := hkf9.trans (keeps_below hba W0.heap.size)
      replace hkp9 : KpB w.heap.size (w.heap.size + 1 + 1 + 1 + 1) W wa := hkp9.trans ⟨hba.mono (by have := hb9.size; omega), hba.block _ (by omega)⟩
      have hce := Bc8.cell x.1 (Array.getElem?_eq_getElem hx20)
      have hfr := Bc8.frozen x.1
      go_wp2
      have hb10 := bSet hb9 (p := ⟨w.heap.size + 1 + 1 + 1, x.1, none⟩) (by show w.heap.size ≤ w.heap.size + 1 + 1 + 1; omega) (.int .i64 (q : Int))
      have hkf10 := hkf9.trans ((KeepsOthers.setCell wa ⟨w.heap.size + 1 + 1 + 1, x.1, none⟩ (.int .i64 (q : Int))).from W0.heap.size)
      have hkp10 : KpB w.heap.size (w.heap.size + 1 + 1 + 1 + 1) W (wa.setCell ⟨w.heap.size + 1 + 1 + 1, x.1, none⟩ (.int .i64 (q : Int))) := hkp9.trans ⟨(Below.refl _ _).setCell (by show w.heap.size ≤ w.heap.size + 1 + 1 + 1; omega) _, Below.heap_setCell _ _ _ _ (by simp)⟩
      have h810 : g8 < (wa.setCell ⟨w.heap.size + 1 + 1 + 1, x.1, none⟩ (.int .i64 (q : Int))).heap.size := Nat.lt_of_lt_of_le (Nat.lt_of_lt_of_le h98 hba.size) (KeepsOthers.setCell wa _ _).size
      replace B38 := B38.far (p := ⟨w.heap.size + 1 + 1 + 1, x.1, none⟩) (by simp; omega) (.int .i64 (q : Int))
      replace Bq8 := Bq8.far (p := ⟨w.heap.size + 1 + 1 + 1, x.1, none⟩) (by simp) (.int .i64 (q : Int))
      replace Br8 := Br8.far (p := ⟨w.heap.size + 1 + 1 + 1, x.1, none⟩) (by simp) (.int .i64 (q : Int))
      replace B89 := B89.far (p := ⟨w.heap.size + 1 + 1 + 1, x.1, none⟩) (by simp; omega) (.int .i64 (q : Int))
      replace Bc8 := Bc8.set x.1 (.int .i64 (q : Int))
      replace hN8 := num_far (g := w.heap.size + 1 + 1 + 1) (o := x.1) hN8 (by omega) (.int .i64 (q : Int))
      have hbN2 : NumAt (wa.setCell ⟨w.heap.size + 1 + 1 + 1, x.1, none⟩ (.int .i64 (q : Int))) b (.slice A2 (Ig.grp b).length c2) := ⟨A2, c2, rfl, (hA2.below hb10).more hb10.size, hn2, hm2⟩
      have hcx := Bc8.cell x.1 (v := .int .i64 (q : Int)) (by rw [Array.getElem?_setIfInBounds_self_of_lt hx20])
      rw [← hsn2.out, qCells_set] at Bc8
      clear hbN hb9 hkf9 hkp9 hce hfr hba
      rw [hsn2.out] at Bc8
      generalize wa.setCell ⟨w.heap.size + 1 + 1 + 1, x.1, none⟩ (.int .i64 (q : Int)) = W10 at *
      gi_wp2
      have hbl : (Ig.grp (b * q)).length ≤ 15000 + 1 := Nat.le_trans (grp_le hqle) hRl
      have cq := fun w1 (hb1 : Below W10.heap.size W10 w1) => (hb1.cell (p := ⟨w.heap.size + 1, 0, none⟩) Bq8.lt).trans (Bq8.cell 0 rfl)
      have cr := fun w1 (hb1 : Below W10.heap.size W10 w1) => (hb1.cell (p := ⟨w.heap.size + 1 + 1, 0, none⟩) Br8.lt).trans (Br8.cell 0 rfl)
      have c9 := fun w1 (hb1 : Below W10.heap.size W10 w1) => (hb1.cell (p := ⟨g8, 0, none⟩) B89.lt).trans (B89.cell 0 rfl)
      have cx := fun w1 (hb1 : Below W10.heap.size W10 w1) => (hb1.cell (p := ⟨w.heap.size + 1 + 1 + 1, x.1, none⟩) Bc8.lt).trans hcx
      refine wpIn_region_rgl [Eqv (.slice (some ⟨g6, 0, none⟩) n6 cap'), Eqv (.func (.func 133) #[.slice A2 (Ig.grp b).length c2] #[]), Eqv (.slice (some ⟨w.heap.size + 1 + 1 + 1, 0, none⟩) (Ig.grp a).length (Ig.grp a).length), Eqv (.int .i64 (x.1 : Int)), Eqv (.pointer (some ⟨w.heap.size + 1 + 1 + 1, x.1, none⟩)), Eqv (.int .i64 (q : Int)), (fun v W => NumAt W (b * q) v), (fun v W => NumAt W (R - b * q) v)] 8 41 (by kernel_rfl) (by kernel_rfl) rfl rfl (by kernel_rfl) ?_ ?_ ?_
      · simp only [AllS]
        exact ⟨stab_eqv _, stab_eqv _, stab_eqv _, stab_eqv _, stab_eqv _, stab_eqv _, fun v w w' h hb => h.call hb, fun v w w' h hb => h.call hb, trivial⟩
      · simp only [Users, List.take, List.length]
        refine ⟨?_, ?_, ?_, ?_, ?_, ?_, ?_, ?_, trivial⟩
        all_goals (intro vs w1 hb1 hd; have c2' := cq w1 hb1; have c3' := cr w1 hb1; have c4' := c9 w1 hb1; have c5' := cx w1 hb1; have hN2 := hbN2.call hb1; have hN6 := hN8.call hb1; clear cq cr c9 cx; simp only [putD, Act.put, List.nil_append, List.cons_append, List.setIfInBounds_toArray, List.set_cons_succ, List.set_cons_zero, Nat.reduceAdd])
        · clear hd; go_wp2; exact ⟨Below.refl _ _, rfl⟩
        · clear hd; go_wp2; exact ⟨Below.refl _ _, rfl⟩
        · clear hd; go_wp2; exact ⟨Below.refl _ _, rfl⟩
        · clear hd; go_wp2; exact ⟨Below.refl _ _, rfl⟩
        · have h2 : vs 2 = .slice (some ⟨w.heap.size + 1 + 1 + 1, 0, none⟩) (Ig.grp a).length (Ig.grp a).length := hd 2 rfl
          have h3 : vs 3 = .int .i64 (x.1 : Int) := hd 3 rfl
          clear hd
          rw [h2, h3]
          go_wp2
          exact ⟨Below.refl _ _, rfl⟩
        · have h4 : vs 4 = .pointer (some ⟨w.heap.size + 1 + 1 + 1, x.1, none⟩) := hd 4 rfl
          clear hd
          rw [h4]
          go_wp2
          exact ⟨Below.refl _ _, rfl⟩
        · have h1' : vs 1 = .func (.func 133) #[.slice A2 (Ig.grp b).length c2] #[] := hd 1 rfl
          have h5 : vs 5 = .int .i64 (q : Int) := hd 5 rfl
          clear hd
          rw [h1', h5]
          have hC := by_any b q _ _ hN2 (by omega) (by omega)
          go_wp2_with fail
          refine hC.mono ?_
          clear hC
          rintro _ w9 ⟨v9, rfl, hn9, hb9⟩
          go_wp2
          exact hn9
        · have h0 : vs 0 = .slice (some ⟨g6, 0, none⟩) n6 cap' := hd 0 rfl
          have h6 : NumAt w1 (b * q) (vs 6) := hd 6 rfl
          clear hd
          rw [h0]
          have hC := minus_any R (b * q) _ (vs 6) w1 hN6 h6 hqle (by omega)
          go_wp2_with fail
          refine hC.mono ?_
          clear hC
          rintro _ w9 ⟨v9, rfl, hn9, hb9⟩
          go_wp2
          exact hn9
      · clear cq cr c9 cx
        intro vs wb hbb hR
        simp only [AllR, Eqv] at hR
        obtain ⟨-, -, -, -, -, -, -, e7, -⟩ := hR
        simp only [List.drop, List.take, List.map, putD, Act.put, List.setIfInBounds_toArray, List.set_cons_succ, List.set_cons_zero, Nat.reduceAdd]
        replace B38 := B38.call hbb
        replace Bq8 := Bq8.call hbb
        replace Br8 := Br8.call hbb
        replace Bc8 := Bc8.call hbb
        have hb11 := bCall hb10 hbb
        have hkf11 := hkf10.trans (keeps_below hbb W0.heap.size)
        have hkp11 : KpB w.heap.size (w.heap.size + 1 + 1 + 1 + 1) W wb := hkp10.trans ⟨hbb.mono (by have := hb10.size; omega), hbb.block _ (by omega)⟩
        generalize vs 7 = z7 at *
        generalize vs 0 = z0, vs 1 = z1, vs 2 = z2, vs 3 = z3, vs 4 = z4, vs 5 = z5, vs 6 = z6
        obtain ⟨A9, c9, rfl, hA9, hn9', hm9⟩ := e7.out
        have hce := Br8.cell 0 rfl
        have hfr := Br8.frozen 0
        clear hA9 hn9' hm9 hN8 hbN2 hcx
        generalize (Ig.grp (R - b * q)).length = n9 at *
        go_wp2
        refine ⟨hkf11.trans ((KeepsOthers.setCell _ _ _).from _), hkp11.trans ⟨(Below.refl _ _).setCell (by show w.heap.size ≤ w.heap.size + 1 + 1; omega) _, Below.heap_setCell _ _ _ _ (by simp; omega)⟩, bSet hb11 (by show w.heap.size ≤ w.heap.size + 1 + 1; omega) _, Nat.le_trans hle (Nat.le_trans hkp11.1.size (KeepsOthers.setCell _ _ _).size), B38.far (by simp; omega) _, Bq8.far (by simp) _, ⟨_, Br8.set 0 _, ?_⟩, Bc8.far (by simp) _⟩
        rw [hsn3.out]
        exact num_set Br8 e7 _
  case done =>
    rintro D ys W hD rfl ⟨hb, hle, B3, Bq, ⟨v, Br, hNr⟩, Bc⟩ hK
    rw [hor_all] at hNr
    have hdl := digs_len (Ig.grp a) b (allDown (Ig.grp a).length)
    have hda := fun w1 (hb1 : Below W.heap.size W w1) => qCells_at (Bc.call hb1)
    have hdt := digs_trim a hb0
    have cq := fun w1 (hb1 : Below W.heap.size W w1) => (hb1.cell (p := ⟨w.heap.size + 1, 0, none⟩) Bq.lt).trans (Bq.cell 0 rfl)
    have cr := fun w1 (hb1 : Below W.heap.size W w1) => (hb1.cell (p := ⟨w.heap.size + 1 + 1, 0, none⟩) Br.lt).trans (Br.cell 0 rfl)
    generalize digs (Ig.grp a) b (allDown (Ig.grp a).length) = ds at *
    obtain ⟨A5, c5, rfl, hA5, hn5, hm5⟩ := hNr.out
    gi_wp2
    refine wpIn_wide.2 ?_
    have hT := fun w1 (hb1 : Below W.heap.size W w1) => trimmed_any ds (some ⟨w.heap.size + 1 + 1 + 1, 0, none⟩) (Ig.grp a).length w1 (hda w1 hb1) (by rw [hdl]; omega) (by rw [hdl]; omega)
    rw [hdl] at hT
    have hNq : NumAt W (a / b) (.slice (some ⟨w.heap.size + 1 + 1 + 1, 0, none⟩) (Ig.trimG ds).length (Ig.grp a).length) := num_of (hda W (Below.refl _ _)) (by rw [hdl]; omega) (by unfold maxLen; omega) ⟨hdt⟩
    clear hdt hda hdl cq cr
    generalize (Ig.trimG ds).length = n6 at *
    generalize (Ig.grp (a % b)).length = n7 at *
    have hq0 := Bq.cell 0 rfl
    have hr0 := Br.cell 0 rfl
    have hqf := Bq.frozen 0
    have hrf := Br.frozen 0
    have Bq2 := Bq.set 0 (.slice (some ⟨w.heap.size + 1 + 1 + 1, 0, none⟩) n6 (Ig.grp a).length)
    have Br2 := Br.far (p := ⟨w.heap.size + 1, 0, none⟩) (by simp) (.slice (some ⟨w.heap.size + 1 + 1 + 1, 0, none⟩) n6 (Ig.grp a).length)
    have hNq2 := num_set Bq hNq (.slice (some ⟨w.heap.size + 1 + 1 + 1, 0, none⟩) n6 (Ig.grp a).length)
    have hNr2 := num_set Bq hNr (.slice (some ⟨w.heap.size + 1 + 1 + 1, 0, none⟩) n6 (Ig.grp a).length)
    have hb2 := bSet hb (p := ⟨w.heap.size + 1, 0, none⟩) (by show w.heap.size ≤ w.heap.size + 1; omega) (.slice (some ⟨w.heap.size + 1 + 1 + 1, 0, none⟩) n6 (Ig.grp a).length)
    have Bq3 := Bq2.far (p := ⟨w.heap.size + 1 + 1, 0, none⟩) (by simp) (.slice A5 n7 c5)
    have Br3 := Br2.set 0 (.slice A5 n7 c5)
    have hNq3 := num_set Br2 hNq2 (.slice A5 n7 c5)
    have hNr3 := num_set Br2 hNr2 (.slice A5 n7 c5)
    have hb3 := bSet hb2 (p := ⟨w.heap.size + 1 + 1, 0, none⟩) (by show w.heap.size ≤ w.heap.size + 1 + 1; omega) (.slice A5 n7 c5)
    have hr4 := Br2.cell 0 rfl
    have hrf4 := Br2.frozen 0
    have hK1 := (Below.heap_setCell W ⟨w.heap.size + 1, 0, none⟩ (.slice (some ⟨w.heap.size + 1 + 1 + 1, 0, none⟩) n6 (Ig.grp a).length) D (by show D ≠ w.heap.size + 1; omega)).trans hK
    have hK2 := (Below.heap_setCell (W.setCell ⟨w.heap.size + 1, 0, none⟩ (.slice (some ⟨w.heap.size + 1 + 1 + 1, 0, none⟩) n6 (Ig.grp a).length)) ⟨w.heap.size + 1 + 1, 0, none⟩ (.slice A5 n7 c5) D (by show D ≠ w.heap.size + 1 + 1; omega)).trans hK1
    clear hb hle B3 Bq Br hNr Bc hNq hb2 hNq2 hNr2 Bq2 Br2 hA5 hn5 hm5 hK1
    have hdr := (Below.refl ((W.setCell ⟨w.heap.size + 1, 0, none⟩ (.slice (some ⟨w.heap.size + 1 + 1 + 1, 0, none⟩) n6 (Ig.grp a).length)).setCell ⟨w.heap.size + 1 + 1, 0, none⟩ (.slice A5 n7 c5)).heap.size ((W.setCell ⟨w.heap.size + 1, 0, none⟩ (.slice (some ⟨w.heap.size + 1 + 1 + 1, 0, none⟩) n6 (Ig.grp a).length)).setCell ⟨w.heap.size + 1 + 1, 0, none⟩ (.slice A5 n7 c5))).drew
    replace hNq3 := hNq3.call hdr
    replace hNr3 := hNr3.call hdr
    replace Bq3 := Bq3.call hdr
    replace Br3 := Br3.call hdr
    replace hb3 := bCall hb3 hdr
    clear hdr
    replace hK2 : (((W.setCell ⟨w.heap.size + 1, 0, none⟩ (.slice (some ⟨w.heap.size + 1 + 1 + 1, 0, none⟩) n6 (Ig.grp a).length)).setCell ⟨w.heap.size + 1 + 1, 0, none⟩ (.slice A5 n7 c5)).drew).heap[D]? = some (.deferred (some [])) := hK2
    have hT1 := hT W.drew ((Below.refl _ _).drew)
    clear hT
    go_region_with (refine hT1.mono ?_; rintro _ _ ⟨rfl, rfl⟩)
    all_goals (
      gi_wp2
      clear hT1 hq0 hr0 hqf hrf hr4 hrf4
      generalize ((W.setCell ⟨w.heap.size + 1, 0, none⟩ (.slice (some ⟨w.heap.size + 1 + 1 + 1, 0, none⟩) n6 (Ig.grp a).length)).setCell ⟨w.heap.size + 1 + 1, 0, none⟩ (.slice A5 n7 c5)).drew = W5 at *
      refine ⟨by simp, .inl ⟨_, _, rfl, run_takeDeferred hK2, ?_⟩⟩
      have hg := grownBy_putObj' W5 D (.deferred none)
      have hr : ∀ r, some D = some r → ∃ o : Obj, W5.heap[r]? = some o ∧ o.isCells = false := fun r e => by cases e; exact ⟨_, hK2, rfl⟩
      exact ⟨_, results_cells2 rfl _ _ rfl rfl (bx_kept Bq3 hg hr) (bx_kept Br3 hg hr), _, _, rfl, num_kept hNq3 hg hr, num_kept hNr3 hg hr, hb3.trans (belowK_b (w := w) (Nat.le_refl _) W5 D _ _ (by omega) hK2 rfl rfl)⟩)
  case stop =>
    rintro D c pre W _ _ h _
    exact h.elim
end Go.Proofs.YtklelhkcbdajpaaGreatDoor
namespace Ig
theorem nv_acc : ∀ (b : List UInt8) (n : Nat), b.foldl (fun n c => 10 * n + (c.toNat - 48)) n = n * 10 ^ b.length + nv b
  | [], n => by simp [nv]
  | c :: b, n => by
    have h1 := nv_acc b (10 * n + (c.toNat - 48))
    have h2 := nv_acc b (10 * 0 + (c.toNat - 48))
    unfold nv at h1 h2 ⊢
    rw [List.foldl_cons, List.foldl_cons, h1, h2, List.length_cons, Nat.pow_succ, Nat.add_mul, Nat.add_mul, Nat.mul_comm 10 n, Nat.mul_assoc, Nat.mul_comm 10 (10 ^ b.length)]
    omega
theorem nv_app (a b : List UInt8) : nv (a ++ b) = nv a * 10 ^ b.length + nv b := by
  rw [← nv_acc]
  unfold nv
  rw [List.foldl_append]
theorem nv_lt : ∀ (k : Nat) {s : List UInt8}, s.length = k → s.all isD = true → nv s < 10 ^ k
  | 0, s, h, _ => by rw [List.length_eq_zero_iff.1 h]; decide
  | k + 1, s, h, hd => by
    rcases List.eq_nil_or_concat s with h0 | ⟨m, c, h0⟩
    · rw [h0] at h; simp at h
    · obtain rfl : s = m ++ [c] := by simpa using h0
      rw [List.all_append, Bool.and_eq_true] at hd
      have ih := nv_lt k (s := m) (by simpa using h) hd.1
      have hc : c.toNat ≤ 57 := by have := hd.2; simp [isD] at this; omega
      rw [nv_snoc, Nat.pow_succ]
      omega
structure ParseAt (D : List UInt8) (a m : Nat) (out : List Int) : Prop where
  le : m ≤ D.length
  gr : Gr out
  eq : gval out + 10000 ^ out.length * (nv (D.take m) : Int) = a
  lo : out.length + m ≤ D.length
theorem parse_start (a : Nat) : ParseAt (Go.Lib.decDigits a) a (Go.Lib.decDigits a).length [] := ⟨Nat.le_refl _, (fun g h => by cases h), by rw [List.take_length, nv_dec]; simp [gval], by simp⟩
theorem chunk_lt {D : List UInt8} (hD : D.all isD = true) {m : Nat} : nv ((D.take m).drop (m - 4)) < 10000 := by
  have h1 : ((D.take m).drop (m - 4)).all isD = true := List.all_eq_true.2 fun c hc => List.all_eq_true.1 hD c (List.mem_of_mem_take (List.mem_of_mem_drop hc))
  have h2 := nv_lt _ rfl h1
  have h3 : ((D.take m).drop (m - 4)).length ≤ 4 := by simp; omega
  exact Nat.lt_of_lt_of_le h2 (Nat.pow_le_pow_right (n := 10) (by decide) h3)
theorem parse_step {D : List UInt8} {a m : Nat} {out : List Int} (hD : D.all isD = true) (h : ParseAt D a m out) (hm : 0 < m) : ParseAt D a (m - 4) (out ++ [(nv ((D.take m).drop (m - 4)) : Int)]) := by
  have hlt := chunk_lt hD (m := m)
  refine ⟨by have := h.le; omega, fun g hg => ?_, ?_, by have := h.lo; simp; omega⟩
  · rcases List.mem_append.1 hg with hg | hg
    · exact h.gr g hg
    · obtain rfl : g = _ := by simpa using hg
      omega
  · have hs : D.take m = D.take (m - 4) ++ (D.take m).drop (m - 4) := by
      conv => lhs; rw [← List.take_append_drop (m - 4) (D.take m), List.take_take, Nat.min_eq_left (by omega)]
    have hv : nv (D.take m) = nv (D.take (m - 4)) * 10000 + nv ((D.take m).drop (m - 4)) := by
      conv => lhs; rw [hs, nv_app]
      by_cases h4 : 4 ≤ m
      · have : ((D.take m).drop (m - 4)).length = 4 := by have := h.le; simp; omega
        rw [this]
      · rw [show m - 4 = 0 by omega]; simp [nv]
    rw [← h.eq, hv, gval_append, List.length_append, List.length_singleton, Int.pow_succ]
    generalize nv ((D.take m).drop (m - 4)) = n
    generalize nv (D.take (m - 4)) = q
    generalize (10000 : Int) ^ out.length = p
    simp only [gval]
    rw [Int.natCast_add, Int.natCast_mul, Int.mul_add, Int.mul_add, Int.mul_assoc]
    rw [show ((10000 : Nat) : Int) = 10000 from rfl, Int.mul_comm 10000 (q : Int)]
    omega
theorem parse_end {D : List UInt8} {a : Nat} {out : List Int} (h : ParseAt D a 0 out) : trimG out = grp a := by
  rw [trimG_of h.gr]
  have := h.eq
  simp [nv] at this
  rw [this, Int.toNat_natCast]
end Ig
namespace Go.Proofs.YtklelhkcbdajpaaGreatDoor
open Go.RowKit Go.Shelf
theorem own_at {W : World} {B : Nat} {v : Value} {out : List Int} (h : W.ownsRow B 3 1 v out.length (out.flatMap intC)) : ∃ A cap, v = .slice A out.length cap ∧ At 1 intC W W.heap.size A out ∧ out.length ≤ cap ∧ cap ≤ maxLen ∧ ∀ b off, A = some ⟨b, off, none⟩ → B ≤ b := by
  rcases h.2 with ⟨rfl, h0⟩ | ⟨g, cap, cur, rfl, h2, h3, h4, h5, h6, h7⟩
  · obtain rfl : out = [] := List.length_eq_zero_iff.1 h0
    exact ⟨none, 0, rfl, At.nil, Nat.le_refl _, Nat.zero_le _, fun b off h => by cases h⟩
  · obtain ⟨A, e, hA, hc⟩ := RowC.at (f := intC) (size := 1) (fun _ => rfl) (show RowC 3 1 B cap out.length (out.flatMap intC) (.slice (some ⟨g, 0, none⟩) out.length cap) W from ⟨g, cur, rfl, h2, h4, h3, h6, h7⟩)
    refine ⟨A, cap, e, hA, hc, h5, fun b off hb => ?_⟩
    rw [hb] at e
    simp only [Value.slice.injEq, Option.some.injEq, Addr.mk.injEq] at e
    omega
theorem own_callG {e : TypeId} {B n size : Nat} {v : Value} {bs : List Value} {w w' : World} (h : w.ownsRow B e size v n bs) (hb : Below w.heap.size w w') : w'.ownsRow B e size v n bs := by
  refine ⟨h.1, ?_⟩
  rcases h.2 with h1 | ⟨g, cap, cur, h1, h2, h3, h4⟩
  · exact .inl h1
  · exact .inr ⟨g, cap, cur, h1, h2, (hb.block g (Array.getElem?_eq_some_iff.1 h3).1).trans h3, h4⟩
theorem own_farG {e : TypeId} {B n size : Nat} {v : Value} {bs : List Value} {w : World} (h : w.ownsRow B e size v n bs) {p : Addr} (hp : p.block < B) (u : Value) : (w.setCell p u).ownsRow B e size v n bs := by
  refine ⟨h.1, ?_⟩
  rcases h.2 with h1 | ⟨g, cap, cur, h1, h2, h3, h4⟩
  · exact .inl h1
  · exact .inr ⟨g, cap, cur, h1, h2, (Below.heap_setCell w p u g (by omega)).trans h3, h4⟩
theorem grown_bx {e t : TypeId} {B n size g : Nat} {v : Value} {bs : List Value} {cs : Array Value} {w w' : World} (ho : w.ownsRow B e size v n bs) (hg : w.grownBy w' v.ownBlock) (hB : Bx w g t cs) (hlt : g < B) : Bx w' g t cs :=
  (hg.block g hB.lt (fun h => by have := (ho.lt g h.symm).1; omega)).trans hB
theorem all_isD {s : List UInt8} (h : s.all Ig.isD = true) : ∀ c ∈ s, 48 ≤ c.toNat ∧ c.toNat ≤ 57 := fun c hc => by
  have := List.all_eq_true.1 h c hc
  simpa [Ig.isD] using this
def lenOf : Value → Nat
  | .string b => b.size
  | _ => 0
theorem results_signed {fn : Func} {t : Tmp} {g : Nat} {neg : Bool} {A : Option Addr} {n c : Nat} (h : fn.results = #[.cell t 109]) (tmps : Array Value) (w : World) (ht : tmps.getD t undef = .pointer (some ⟨g, 0, none⟩)) (hB : Bx w g 109 #[.bool neg, .slice A n c]) :
    (results fn tmps).run Tryz.prog w = .ok (.agg #[.bool neg, .slice A n c]) w := by
  have h0 := hB.cell 0 rfl
  have h1 := hB.cell 1 rfl
  have ht' : tmps[t]?.getD undef = .pointer (some ⟨g, 0, none⟩) := by simpa using ht
  simp only [results, h]
  simp [go_sem, ht', h0, h1, loadVar]
theorem parse_any (z : Int) (w : World) (hz : Ig.fits z) :
    Calls Tryz.prog 127 #[.string ⟨(Lib.itoa z).toArray⟩] w fun e w' => ∃ v, e = .returned (.agg #[.bool (decide (z < 0)), v]) ∧ NumAt w' z.natAbs v ∧ Below w.heap.size w w' := by
  have hT := fun w0 => TrimPrefix_any (Lib.itoa z) w0
  have hlen : (decide ((Lib.decDigits z.natAbs).length < (Lib.itoa z).length)) = decide (z < 0) := by
    by_cases h : 0 ≤ z
    · rw [Ig.itoa_nonneg h, decide_eq_false (by omega), decide_eq_false (by omega)]
    · rw [Ig.itoa_neg (by omega), decide_eq_true (by rw [List.length_cons]; omega), decide_eq_true (by omega)]
  have hD := Ig.dec_digits z.natAbs
  have hst := Ig.parse_start z.natAbs
  have hDl : (Lib.decDigits z.natAbs).length ≤ 200 := by rw [Ig.dec_len]; exact (Ig.fits_iff z).1 hz
  rw [Ig.unsg_itoa] at hT
  generalize decide (z < 0) = neg at *
  generalize z.natAbs = a at *
  generalize Lib.itoa z = s at *
  generalize Lib.decDigits a = D at *
  go_enter Tryz.func127, Tryz.ntmps127
  go_wp2_with (go_at_call 141; refine (hT _).mono ?_; rintro _ _ ⟨rfl, rfl⟩)
  have hb0 := bNew (bNewW w (.cells #[.bool false, .slice none 0 0] 109)) (.cells #[.bool neg, .slice none 0 0] 109)
  have B1 := (Bx.mk w 109 #[.bool false, .slice none 0 0]).new (.cells #[.bool neg, .slice none 0 0] 109)
  have B2 := Bx.mk (w.alloc (.cells #[.bool false, .slice none 0 0] 109)) 109 #[.bool neg, .slice none 0 0]
  have hsz : ((w.alloc (.cells #[.bool false, .slice none 0 0] 109)).alloc (.cells #[.bool neg, .slice none 0 0] 109)).heap.size = w.heap.size + 2 := by rw [alloc_size, alloc_size]
  rw [alloc_size] at B2
  generalize ((w.alloc (.cells #[.bool false, .slice none 0 0] 109)).alloc (.cells #[.bool neg, .slice none 0 0] 109)) = W0 at *
  clear hT hlen
  go_loopw [3, 5, 6, 7] (fun s3 s5 s6 s7 wr => ∃ (m : Nat) (out : List Int) (v : Value), s3 = .string ⟨(D.take m).toArray⟩ ∧ Kp (Ig.ParseAt D a m out) ∧ m ≤ D.length ∧ out.length ≤ 200 ∧ Bx wr w.heap.size 109 #[.bool false, .slice none 0 0] ∧ Bx wr (w.heap.size + 1) 109 #[.bool neg, v] ∧ wr.ownsRow (w.heap.size + 2) 3 1 v out.length (out.flatMap intC) ∧ w.heap.size + 2 ≤ wr.heap.size ∧ Below w.heap.size w wr)
    (fun s3 s5 s6 s7 _ => lenOf s3)
  case atStart => exact ⟨D.length, [], .slice none 0 0, by rw [List.take_length], ⟨hst⟩, Nat.le_refl _, by simp, B1, B2, World.ownsRow_nil _ _ _ _, by omega, hb0⟩
  case round =>
    clear hb0 B1 B2 hsz hst
    obtain ⟨m, out, v, rfl, hp, hmD, hol, B1, B2, hown, hle, hb⟩ := hrel
    by_cases h0 : 0 < m
    · have hnext := Kp.mk (Ig.parse_step hD hp.out h0)
      have hch := Ig.chunk_lt hD (m := m)
      have hlo := hp.out.lo
      have hdig : ((D.take m).drop (m - 4)).all Ig.isD = true := List.all_eq_true.2 fun c hc => List.all_eq_true.1 hD c (List.mem_of_mem_take (List.mem_of_mem_drop hc))
      have hcl : ((D.take m).drop (m - 4)).length ≤ 4 := by simp; omega
      have hcn : (D.take m).drop (m - 4) ≠ [] := by
        intro h
        have := congrArg List.length h
        simp at this; omega
      have hA := fun w0 => Atoi_any ((D.take m).drop (m - 4)) (Ig.nv ((D.take m).drop (m - 4)) : Int) w0 (by omega) (atoi_digits _ (all_isD hdig) hcn (by omega))
      have htk : (D.take m).take (m - 4) = D.take (m - 4) := by rw [List.take_take, Nat.min_eq_left (by omega)]
      have htl : (D.take m).length = m := by simp; omega
      clear hdig hcl hcn
      generalize Ig.nv ((D.take m).drop (m - 4)) = n at *
      generalize hch2 : (D.take m).drop (m - 4) = ch at *
      have hmx : max (0 : Int) ((m : Int) - 4) = ((m - 4 : Nat) : Int) := by omega
      have hm4 : m - 4 ≤ m := by omega
      clear hp
      generalize D.take m = t at *
      generalize ht' : D.take (m - 4) = t' at *
      generalize hk : m - 4 = k at *
      have c1 := B2.cell 1 rfl
      have htc : List.take (m - k) ch = ch := by rw [← hch2]; exact List.take_of_length_le (by rw [List.length_drop, htl]; omega)
      go_wp2_with fail
      refine (hA _).mono ?_
      rintro _ w1 ⟨rfl, hb1⟩
      clear c1 hA htc
      replace B1 := B1.call hb1
      replace B2 := B2.call hb1
      replace hown := own_callG hown hb1
      replace hb := bCall hb hb1
      replace hle := Nat.le_trans hle hb1.size
      have c1 := B2.cell 1 rfl
      obtain ⟨i0, z0, hi, hz, hs1, hz1, hby⟩ := intI
      have hBt := Bx.mk w1 3 #[.int .i64 (n : Int)]
      go_wp2_with (at_builtin; refine wpList_append_own _ rfl (.tmp 31) (.tmp 33) 107 rfl (w.heap.size + 2) 3 i0 z0 1 8 Tryz.underlying107 hi hz hs1 hby hz1 (by decide) _ _ _ rfl (hown.alloc _) ⟨w1.heap.size, 0, none⟩ 1 1 [.int .i64 (n : Int)] rfl rfl ?c1 ?c2 ?c3 ?c4 ?c5 ?_)
      case c1 =>
        intro j u hj
        match j, hj with
        | 0, hj => simp at hj; subst hj; simp [Addr.add]
      case c2 => intro u hu; simp at hu; subst hu; rfl
      case c3 => unfold maxLen; omega
      case c4 => omega
      case c5 => rw [alloc_size]; omega
      intro v' w2 hown' hgrow _
      have hbn := bNewW w1 (.cells #[.int .i64 (n : Int)] 3)
      have hown1 := own_callG hown hbn
      have B1' := grown_bx hown1 hgrow (B1.call hbn) (by omega)
      have B2' := grown_bx hown1 hgrow (B2.call hbn) (by omega)
      have hb' := (bCall hb hbn).grown hgrow (by rw [alloc_size]; omega) (fun k hk => by have := (hown1.lt k hk).1; omega)
      have hle' : w.heap.size + 2 ≤ w2.heap.size := Nat.le_trans (Nat.le_trans hle hbn.size) hgrow.size
      obtain ⟨ao, n', cap, rfl⟩ : ∃ ao n' cap, v' = .slice ao n' cap := by
        rcases hown'.2 with ⟨hv, _⟩ | ⟨g, cap, cur, hv, _⟩
        · exact ⟨_, _, _, hv⟩
        · exact ⟨_, _, _, hv⟩
      have d1 := B2'.cell 1 rfl
      have f1 := B2'.frozen 1
      clear c1 hBt hgrow hown hown1 B1 B2 hbn hb hle hi hz hs1 hz1 hby
      go_wp2
      refine ⟨⟨k, out ++ [(n : Int)], .slice ao n' cap, ?_, hnext, by omega, by rw [List.length_append, List.length_singleton]; omega, B1'.far (by simp) _, B2'.set 1 _, ?_, ?_, bSet hb' (by show w.heap.size ≤ w.heap.size + 1; omega) _⟩, ?_⟩
      · rw [ht']
      · rw [List.length_append, List.length_singleton, List.flatMap_append]
        exact own_farG hown' (by show w.heap.size + 1 < w.heap.size + 2; omega) _
      · exact Nat.le_trans hle' (KeepsOthers.setCell w2 _ _).size
      · simp only [lenOf]
        show t'.length < t.length
        rw [← htk, List.length_take, htl]
        omega
    · obtain rfl : m = 0 := by omega
      have hfin := Ig.parse_end hp.out
      clear hp hD hmD
      obtain ⟨A, cap, rfl, hA, hcap, hcm, hAB⟩ := own_at hown
      have hT := trimmed_any out A cap wr hA hcap (by omega)
      have hN := num_of hA hcap hcm ⟨hfin⟩
      have hAt : At 1 intC wr wr.heap.size A (Ig.trimG out) := by rw [← trim_take]; exact hA.take _
      clear hown hA hN
      have hlk : Kp ((Ig.grp a).length = (Ig.trimG out).length) := ⟨by rw [hfin]⟩
      have htl := Kp.mk (show (Ig.trimG out).length ≤ cap by rw [← trim_take, List.length_take]; omega)
      rw [hfin] at hAt
      clear hfin
      generalize (Ig.trimG out).length = n at *
      have c0 := B2.cell 0 rfl
      have c1 := B2.cell 1 rfl
      have f1 := B2.frozen 1
      have B2' := B2.set 1 (.slice A n cap)
      have B1' := B1.far (p := ⟨w.heap.size + 1, 1, none⟩) (by simp) (.slice A n cap)
      have hb' := bSet hb (p := ⟨w.heap.size + 1, 1, none⟩) (by show w.heap.size ≤ w.heap.size + 1; omega) (.slice A n cap)
      have hAt' := at_far (g := w.heap.size + 1) (o := 1) hAt (fun b off h => by have := hAB b off h; omega) (.slice A n cap)
      clear B1 hb hAt
      go_wp2_with fail
      refine hT.mono ?_
      rintro _ _ ⟨rfl, rfl⟩
      clear hT
      have d0 := B2'.cell 0 rfl
      have d1 := B2'.cell 1 rfl
      have e0 := B1'.cell 0 rfl
      have e1 := B1'.cell 1 rfl
      have g0 := B1'.frozen 0
      have g1 := B1'.frozen 1
      have B1s := (B1'.set 0 (.bool neg)).set 1 (.slice A n cap)
      have hbs := bSet (bSet hb' (p := ⟨w.heap.size, 0, none⟩) (Nat.le_refl _) (.bool neg)) (p := ⟨w.heap.size, 1, none⟩) (Nat.le_refl _) (.slice A n cap)
      have hAs := at_far (g := w.heap.size) (o := 1) (at_far (g := w.heap.size) (o := 0) hAt' (fun b off h => by have := hAB b off h; omega) (.bool neg)) (fun b off h => by have := hAB b off h; omega) (.slice A n cap)
      go_wp2
      refine bodyPost_ret (results_signed rfl _ _ rfl B1s) rfl ⟨_, rfl, ⟨A, cap, by rw [hlk.out], hAs.more ?_, by rw [hlk.out]; exact htl.out, hcm⟩, hbs⟩
      exact Nat.le_trans (KeepsOthers.setCell wr _ _).size (Nat.le_trans (KeepsOthers.setCell _ _ _).size (KeepsOthers.setCell _ _ _).size)
end Go.Proofs.YtklelhkcbdajpaaGreatDoor
