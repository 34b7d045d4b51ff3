/- Bent of dialtoneref37: a tariff with something changed. -/
import Derived.Test.YtfebcokmnhdbmaaGreatDoorTBentP
import Derived.Test.YtfebcokmnhdbmaaGreatDoorTPie
namespace Go.Proofs.YtfebcokmnhdbmaaGreatDoor
set_option linter.unusedVariables false
set_option linter.unusedSimpArgs false
open Go.RowKit Go.Shelf
theorem flat_set : ∀ (l : List Tp.Rate) (k j : Nat) (u : Value) (r : Tp.Rate) (hk : k < l.length), j < 4 → rateC r = (rateC l[k]).set j u → (l.flatMap rateC).set (k * 4 + j) u = (l.set k r).flatMap rateC
  | [], k, j, u, r, hk, _, _ => by simp at hk
  | x :: l, 0, j, u, r, hk, hj, hr => by
    rw [List.set_cons_zero, List.flatMap_cons, List.flatMap_cons, hr, Nat.zero_mul, Nat.zero_add, List.set_append_left _ _ (by show j < 4; exact hj)]
    rfl
  | x :: l, k + 1, j, u, r, hk, hj, hr => by
    have ih := flat_set l k j u r (by simpa using hk) hj (by simpa using hr)
    rw [List.set_cons_succ, List.flatMap_cons, List.flatMap_cons, List.set_append_right _ _ (by show 4 ≤ _; omega), ← ih]
    congr 2
    show (k + 1) * 4 + j - 4 = k * 4 + j
    omega
/-- what is at hand: a copy of the rates, the tariff that holds it, the result's place -/
structure BnI (w : World) (g9 gR cR : Nat) (l : List Tp.Rate) (bs : Int) (W : World) : Prop where
  bl : Below w.heap.size w W
  b8 : Bx W (w.heap.size + 1) 26 #[.slice none 0 0, .int .i64 0]
  b9 : Bx W g9 26 #[.slice (some ⟨gR, 0, none⟩) l.length cR, .int .i64 bs]
  row : RowC 68 4 (w.heap.size + 2) cR l.length (l.flatMap rateC) (.slice (some ⟨gR, 0, none⟩) l.length cR) W
  cm : cR ≤ maxLen
  ge : w.heap.size + 2 ≤ g9
  i64 : I64 bs
  r64 : ∀ r ∈ l, R64 r
section
variable {w W W' : World} {g9 gR cR : Nat} {l : List Tp.Rate} {bs : Int}
theorem BnI.call (h : BnI w g9 gR cR l bs W) (hb : Below W.heap.size W W') : BnI w g9 gR cR l bs W' :=
  ⟨bCall h.bl hb, h.b8.call hb, h.b9.call hb, stab_rowC _ _ _ _ _ _ _ _ _ h.row hb, h.cm, h.ge, h.i64, h.r64⟩
theorem BnI.rowB (h : BnI w g9 gR cR l bs W) : ∃ cells, w.heap.size + 2 ≤ gR ∧ l.length ≤ cR ∧ Bx W gR 68 cells ∧ cells.size = cR * 4 ∧ cells.toList.take (l.length * 4) = l.flatMap rateC := by
  obtain ⟨g, cells, e, h1, h2, h3, h4, h5⟩ := h.row
  cases e
  exact ⟨cells, h1, h2, h3, h4, h5⟩
theorem BnI.ne (h : BnI w g9 gR cR l bs W) : g9 ≠ gR := by
  obtain ⟨cells, -, -, h3, -⟩ := h.rowB
  rintro rfl
  have := h.b9.symm.trans h3
  have e := Option.some.inj this
  injection e with e1 e2 e3
  exact absurd e2 (by decide)
theorem BnI.base (h : BnI w g9 gR cR l bs W) (n : Int) (hn : I64 n) : BnI w g9 gR cR l n (W.setCell ⟨g9, 1, none⟩ (.int .i64 n)) := by
  have hg := h.ge
  obtain ⟨cells, h1, h2, h3, h4, h5⟩ := h.rowB
  exact ⟨bSet h.bl (p := ⟨g9, 1, none⟩) (by show w.heap.size ≤ g9; omega) _, h.b8.far (p := ⟨g9, 1, none⟩) (by show w.heap.size + 1 ≠ g9; omega) _, by simpa using h.b9.set 1 (.int .i64 n), ⟨gR, cells, rfl, h1, h2, h3.far (p := ⟨g9, 1, none⟩) (Ne.symm h.ne) _, h4, h5⟩, h.cm, hg, hn, h.r64⟩
theorem BnI.rate (h : BnI w g9 gR cR l bs W) {k j : Nat} {n : Int} {r : Tp.Rate} (hk : k < l.length) (hj : j < 4) (hr : rateC r = (rateC l[k]).set j (.int .i64 n)) (h64 : R64 r) : BnI w g9 gR cR (l.set k r) bs (W.setCell ⟨gR, k * 4 + j, none⟩ (.int .i64 n)) := by
  have hg := h.ge
  have hs := RowC.setAt h.row (k * 4 + j) (.int .i64 n)
  rw [flat_set l k j _ r hk hj hr] at hs
  obtain ⟨cells, h1, -⟩ := h.rowB
  refine ⟨bSet h.bl (p := ⟨gR, k * 4 + j, none⟩) (by show w.heap.size ≤ gR; omega) _, h.b8.far (p := ⟨gR, k * 4 + j, none⟩) (by show w.heap.size + 1 ≠ gR; omega) _, ?_, ?_, h.cm, hg, h.i64, ?_⟩
  · rw [List.length_set]; exact h.b9.far (p := ⟨gR, k * 4 + j, none⟩) h.ne _
  · rw [List.length_set]; exact hs
  · intro q hq
    rcases List.mem_or_eq_of_mem_set hq with hq | rfl
    · exact h.r64 q hq
    · exact h64
theorem BnI.cell (h : BnI w g9 gR cR l bs W) {k j : Nat} {u : Value} (hk : k < l.length) (hj : j < 4) (hu : (rateC l[k])[j]? = some u) : W.cell? ⟨gR, k * 4 + j, none⟩ = some u ∧ W.frozen? ⟨gR, k * 4 + j, none⟩ = false := by
  obtain ⟨cells, h1, h2, h3, h4, h5⟩ := h.rowB
  refine ⟨h3.cell _ ?_, h3.frozen _⟩
  have e1 := flat_get (f := rateC) (size := 4) (fun _ => rfl) l k j l[k] (List.getElem?_eq_getElem hk) hj
  rw [← h5, List.getElem?_take, if_pos (by omega), hu] at e1
  simpa using e1
theorem BnI.push (h : BnI w g9 gR cR l bs W) {q : Tp.Rate} (hq : R64 q) {W3 : World} {gR' cR' : Nat} (hr : RowC 68 4 (w.heap.size + 2) cR' (l.length + 1) (l.flatMap rateC ++ rateC q) (.slice (some ⟨gR', 0, none⟩) (l.length + 1) cR') W3) (cm : cR' ≤ maxLen) (hb : Below (w.heap.size + 2) W W3)
    (b8 : Bx W3 (w.heap.size + 1) 26 #[.slice none 0 0, .int .i64 0]) (b9 : Bx W3 g9 26 #[.slice (some ⟨gR, 0, none⟩) l.length cR, .int .i64 bs]) :
    BnI w g9 gR' cR' (l ++ [q]) bs (W3.setCell ⟨g9, 0, none⟩ (.slice (some ⟨gR', 0, none⟩) (l.length + 1) cR')) := by
  have hg := h.ge
  obtain ⟨g, cells, e, h1, h2, h3, h4, h5⟩ := hr
  cases e
  have hne : gR' ≠ g9 := by
    rintro rfl
    have := b9.symm.trans h3
    injection (Option.some.inj this) with e1 e2 e3
    exact absurd e2 (by decide)
  refine ⟨bSet (h.bl.trans (hb.mono (by omega))) (p := ⟨g9, 0, none⟩) (by show w.heap.size ≤ g9; omega) _, b8.far (p := ⟨g9, 0, none⟩) (by show w.heap.size + 1 ≠ g9; omega) _, ?_, ?_, cm, hg, h.i64, fun r hr => ?_⟩
  · rw [List.length_append, List.length_singleton]
    simpa using b9.set 0 (.slice (some ⟨gR', 0, none⟩) (l.length + 1) cR')
  · rw [List.length_append, List.length_singleton, List.flatMap_append, List.flatMap_singleton]
    exact ⟨gR', cells, rfl, h1, h2, h3.far (p := ⟨g9, 0, none⟩) hne _, h4, h5⟩
  · rcases List.mem_append.1 hr with hr | hr
    · exact h.r64 r hr
    · rw [List.mem_singleton] at hr; subst hr; exact hq
/-- the result -/
theorem BnI.done (h : BnI w g9 gR cR l bs W) (hl : l.length ≤ 9223372036854775807) : Bx ((W.setCell ⟨w.heap.size + 1, 0, none⟩ (.slice (some ⟨gR, 0, none⟩) l.length cR)).setCell ⟨w.heap.size + 1, 1, none⟩ (.int .i64 bs)) (w.heap.size + 1) 26 #[.slice (some ⟨gR, 0, none⟩) l.length cR, .int .i64 bs] ∧
    Tar ((W.setCell ⟨w.heap.size + 1, 0, none⟩ (.slice (some ⟨gR, 0, none⟩) l.length cR)).setCell ⟨w.heap.size + 1, 1, none⟩ (.int .i64 bs)) bs l (some ⟨gR, 0, none⟩) cR ∧ Below w.heap.size w ((W.setCell ⟨w.heap.size + 1, 0, none⟩ (.slice (some ⟨gR, 0, none⟩) l.length cR)).setCell ⟨w.heap.size + 1, 1, none⟩ (.int .i64 bs)) := by
  obtain ⟨cells, h1, h2, h3, h4, h5⟩ := h.rowB
  have hr : RowC 68 4 (w.heap.size + 2) cR l.length (l.flatMap rateC) (.slice (some ⟨gR, 0, none⟩) l.length cR) ((W.setCell ⟨w.heap.size + 1, 0, none⟩ (.slice (some ⟨gR, 0, none⟩) l.length cR)).setCell ⟨w.heap.size + 1, 1, none⟩ (.int .i64 bs)) :=
    ⟨gR, cells, rfl, h1, h2, (h3.far (p := ⟨w.heap.size + 1, 0, none⟩) (by show gR ≠ w.heap.size + 1; omega) _).far (p := ⟨w.heap.size + 1, 1, none⟩) (by show gR ≠ w.heap.size + 1; omega) _, h4, h5⟩
  obtain ⟨A, e1, e2, e3⟩ := RowC.at (f := rateC) (size := 4) (fun _ => rfl) hr
  cases e1
  exact ⟨by simpa using (h.b8.set 0 (.slice (some ⟨gR, 0, none⟩) l.length cR)).set 1 (.int .i64 bs), ⟨e2, e3, hl, h.i64, h.r64⟩, bSet (bSet h.bl (p := ⟨w.heap.size + 1, 0, none⟩) (Nat.le_succ _) _) (p := ⟨w.heap.size + 1, 1, none⟩) (Nat.le_succ _) _⟩
end
/-- the length that a tariff in memory says -/
def lenAt (g : Nat) (W : World) : Nat := match W.cell? ⟨g, 0, none⟩ with | some (.slice _ m _) => m | _ => 0
theorem lenAt_of {g n c : Nat} {A : Option Addr} {bs : Int} {W : World} (h : Bx W g 26 #[.slice A n c, .int .i64 bs]) : lenAt g W = n := by
  unfold lenAt
  rw [h.cell 0 rfl]
  rfl
theorem cell_of {W : World} {g i : Nat} {t : TypeId} {cs : Array Value} {u : Value} (h : Bx W g t cs) (hc : W.cell? ⟨g, i, none⟩ = some u) : cs[i]? = some u := by
  unfold Bx at h
  simpa [World.cell?, h] using hc
theorem set4_take (c : Array Value) {o : Nat} (h : o + 4 ≤ c.size) (x0 x1 x2 x3 : Value) : (set4 c o x0 x1 x2 x3).toList.take (o + 4) = c.toList.take o ++ [x0, x1, x2, x3] := by
  have key : ∀ i, (set4 c o x0 x1 x2 x3)[i]? = if i = o then some x0 else if i = o + 1 then some x1 else if i = o + 2 then some x2 else if i = o + 3 then some x3 else c[i]? := by
    intro i
    simp only [set4, Array.getElem?_setIfInBounds, Array.size_setIfInBounds]
    by_cases h3 : o + 3 = i
    · subst h3
      rw [if_pos rfl, if_pos (by omega), if_neg (by omega), if_neg (by omega), if_neg (by omega), if_pos rfl]
    · rw [if_neg h3]
      by_cases h2 : o + 2 = i
      · subst h2
        rw [if_pos rfl, if_pos (by omega), if_neg (by omega), if_neg (by omega), if_pos rfl]
      · rw [if_neg h2]
        by_cases h1 : o + 1 = i
        · subst h1
          rw [if_pos rfl, if_pos (by omega), if_neg (by omega), if_pos rfl]
        · rw [if_neg h1]
          by_cases h0 : o = i
          · subst h0
            rw [if_pos rfl, if_pos (by omega), if_pos rfl]
          · rw [if_neg h0, if_neg (Ne.symm h0), if_neg (Ne.symm h1), if_neg (Ne.symm h2), if_neg (Ne.symm h3)]
  apply List.ext_getElem?
  intro i
  have hk := key i
  have hlt : (c.toList.take o).length = o := by rw [List.length_take, Array.length_toList]; omega
  rw [List.getElem?_take, List.getElem?_append]
  rw [hlt]
  by_cases hi : i < o
  · rw [if_pos (by omega), if_pos hi, List.getElem?_take, if_pos hi]
    have := set4_before c hi x0 x1 x2 x3
    simpa using this
  · rw [if_neg hi]
    by_cases hi4 : i < o + 4
    · rw [if_pos hi4]
      rcases (show i = o ∨ i = o + 1 ∨ i = o + 2 ∨ i = o + 3 by omega) with rfl | rfl | rfl | rfl
      · rw [if_pos rfl] at hk
        simpa using hk
      · rw [if_neg (by omega), if_pos rfl] at hk
        rw [show o + 1 - o = 1 by omega]
        simpa using hk
      · rw [if_neg (by omega), if_neg (by omega), if_pos rfl] at hk
        rw [show o + 2 - o = 2 by omega]
        simpa using hk
      · rw [if_neg (by omega), if_neg (by omega), if_neg (by omega), if_pos rfl] at hk
        rw [show o + 3 - o = 3 by omega]
        simpa using hk
    · rw [if_neg hi4, List.getElem?_eq_none]
      show 4 ≤ i - o
      omega
/-- a tariff built over a slice of one's own -/
def AggN (B n : Nat) (flat : List Value) (base : Int) : Value → World → Prop := fun v w => ∃ u, v = .agg #[u, .int .i64 base] ∧ RowN 68 4 B n flat u w
theorem stab_aggN (B n : Nat) (flat : List Value) (base : Int) : Stab (AggN B n flat base) := fun v w w' ⟨u, e, h⟩ hb => ⟨u, e, stab_rowN _ _ _ _ _ _ _ _ h hb⟩
theorem BnI.start {w W : World} {g9 gR cR : Nat} {l : List Tp.Rate} {bs : Int} (bl : Below w.heap.size w W) (b8 : Bx W (w.heap.size + 1) 26 #[.slice none 0 0, .int .i64 0]) (b9 : Bx W g9 26 #[.slice none 0 0, .int .i64 0])
    (row : RowC 68 4 (w.heap.size + 2) cR l.length (l.flatMap rateC) (.slice (some ⟨gR, 0, none⟩) l.length cR) W) (cm : cR ≤ maxLen) (ge : w.heap.size + 2 ≤ g9) (i64 : I64 bs) (r64 : ∀ r ∈ l, R64 r) :
    BnI w g9 gR cR l bs ((W.setCell ⟨g9, 0, none⟩ (.slice (some ⟨gR, 0, none⟩) l.length cR)).setCell ⟨g9, 1, none⟩ (.int .i64 bs)) := by
  obtain ⟨g, cells, e, h1, h2, h3, h4, h5⟩ := row
  cases e
  have hne : gR ≠ g9 := by
    rintro rfl
    have := b9.symm.trans h3
    injection (Option.some.inj this) with e1 e2 e3
    exact absurd e2 (by decide)
  exact ⟨bSet (bSet bl (p := ⟨g9, 0, none⟩) (by show w.heap.size ≤ g9; omega) _) (p := ⟨g9, 1, none⟩) (by show w.heap.size ≤ g9; omega) _, (b8.far (p := ⟨g9, 0, none⟩) (by show w.heap.size + 1 ≠ g9; omega) _).far (p := ⟨g9, 1, none⟩) (by show w.heap.size + 1 ≠ g9; omega) _,
    by simpa using (b9.set 0 (.slice (some ⟨gR, 0, none⟩) l.length cR)).set 1 (.int .i64 bs), ⟨gR, cells, rfl, h1, h2, (h3.far (p := ⟨g9, 0, none⟩) hne _).far (p := ⟨g9, 1, none⟩) hne _, h4, h5⟩, cm, ge, i64, r64⟩
set_option maxRecDepth 100000 in
set_option maxHeartbeats 8000000 in
theorem Bent_any (base : Int) (L : List Tp.Rate) (A : Option Addr) (cap : Nat) (how n at_ : Int) (w : World) (hT : Tar w base L A cap) (hL : L.length ≤ 6) (hh : I64 how) (hn : I64 n) (ha : I64 at_) :
    Calls Tryz.prog 16 #[.agg #[.slice A L.length cap, .int .i64 base], .int .i64 how, .int .i64 n, .int .i64 at_] w fun e w' => (∃ bs l C cc, e = .returned (.agg #[.slice C l.length cc, .int .i64 bs]) ∧ Tar w' bs l C cc) ∧ Below w.heap.size w w' := by
  have hb := bNew (bNewW w (.cells #[.slice A L.length cap, .int .i64 base] 26)) (.cells #[.slice none 0 0, .int .i64 0] 26)
  have BX := (Bx.mk w 26 #[.slice A L.length cap, .int .i64 base]).new (.cells #[.slice none 0 0, .int .i64 0] 26)
  have B8 := Bx.mk (w.alloc (.cells #[.slice A L.length cap, .int .i64 base] 26)) 26 #[.slice none 0 0, .int .i64 0]
  rw [alloc_size] at B8
  have hT1 := hT.call hb
  have hp6 := Tp.pick_lt how (show (0 : Int) < 6 by decide)
  have p6 := fun w0 => trpick_any how 6 (by decide) hh w0
  obtain ⟨ii, zz, hi1, hzz, hs1, hz1, hby⟩ := rateI
  go_enter Tryz.func16, Tryz.ntmps16
  go_upto_region 1 with fail
  have hsz : (((w.alloc (.cells #[.slice A L.length cap, .int .i64 base] 26)).alloc (.cells #[.slice none 0 0, .int .i64 0] 26))).heap.size = w.heap.size + 2 := by rw [alloc_size, alloc_size]
  replace hsz := Kp.mk hsz
  generalize (w.alloc (.cells #[.slice A L.length cap, .int .i64 base] 26)).alloc (.cells #[.slice none 0 0, .int .i64 0] 26) = W0 at *
  refine wp_region_rgl [RowC 68 4 W0.heap.size 0 0 [], Eqv (.pointer (some ⟨w.heap.size, 0, none⟩)), Eqv (.slice A L.length cap), RowN 68 4 W0.heap.size L.length (L.flatMap rateC), Eqv (.pointer (some ⟨w.heap.size, 1, none⟩)), Eqv (.int .i64 base), AggN W0.heap.size L.length (L.flatMap rateC) base, Fresh W0.heap.size 26 #[.slice none 0 0, .int .i64 0]] 8 87 (by kernel_rfl) rfl rfl (by kernel_rfl) ?_ ?_ ?_
  · simp only [AllS]
    repeat' apply And.intro
    all_goals first | exact stab_eqv _ | exact stab_rowC _ _ _ _ _ _ | exact stab_rowN _ _ _ _ _ | exact stab_aggN _ _ _ _ | exact stab_fresh _ _ _ | trivial
  · simp only [Users, List.take, List.length]
    refine ⟨?_, ?_, ?_, ?_, ?_, ?_, ?_, ?_, trivial⟩
    all_goals (intro vs w5 hb5 hd; have x0 := (BX.call hb5).cell 0 rfl; have x1 := (BX.call hb5).cell 1 rfl; simp only [putD, Act.put, List.nil_append, List.cons_append, List.setIfInBounds_toArray, List.set_cons_succ, List.set_cons_zero, Nat.reduceAdd])
    · clear hd; go_wp2; exact ⟨(Below.refl _ _).alloc (Nat.le_refl _) _, _, _, rfl, hb5.size, Nat.le_refl _, Bx.mk _ _ _, rfl, rfl⟩
    · clear hd; go_wp2; exact ⟨Below.refl _ _, rfl⟩
    · have e1 := hd 1 rfl; change vs 1 = _ at e1; clear hd; rw [e1]; go_wp2; exact ⟨Below.refl _ _, rfl⟩
    · have h0 : RowC 68 4 W0.heap.size 0 0 [] (vs 0) w5 := hd 0 rfl
      have h1 : vs 2 = .slice A L.length cap := hd 2 rfl
      clear hd
      rw [h1]
      have hsrc := At.src (f := rateC) (size := 4) (e := 68) (fun _ => rfl) (fun c u hu => by simp [rateC] at hu; rcases hu with rfl | rfl | rfl | rfl <;> rfl) Tryz.underlying24 (hT1.at_.below hb5) cap
      refine wpList_append_row rfl (.tmp 11) (.tmp 13) 24 68 rfl ii zz 4 W0.heap.size 0 0 L.length [] (L.flatMap rateC) (vs 0) _ Tryz.underlying24 hi1 hzz hs1 hz1 rfl rfl h0 hb5.size hsrc (by decide) (by unfold maxLen; omega) (by rw [hby]; omega) ?_
      intro v' w' cap' e1 e2 e3 e4
      exact ⟨rfl, rfl, e2 rfl, ⟨cap', by rw [Nat.zero_add, List.nil_append] at e3; exact e3, e4⟩⟩
    · clear hd; go_wp2; exact ⟨Below.refl _ _, rfl⟩
    · have e4 := hd 4 rfl; change vs 4 = _ at e4; clear hd; rw [e4]; go_wp2; exact ⟨Below.refl _ _, rfl⟩
    · have h3 : RowN 68 4 W0.heap.size L.length (L.flatMap rateC) (vs 3) w5 := hd 3 rfl
      have e5 := hd 5 rfl; change vs 5 = _ at e5
      clear hd
      have h3' := h3
      obtain ⟨c3, ⟨g3, k3, e3, -⟩, -⟩ := h3'
      rw [e5, e3]
      rw [e3] at h3
      go_wp2
      exact ⟨Below.refl _ _, _, rfl, h3⟩
    · clear hd; go_wp2; exact ⟨(Below.refl _ _).alloc (Nat.le_refl _) _, _, rfl, hb5.size, Bx.mk _ _ _⟩
  · intro vs w5 hb5 hR
    simp only [AllR, Eqv] at hR
    obtain ⟨⟨g0, k0, e0, -⟩, e1, e2, ⟨c3, ⟨g3, k3, e3, -⟩, -⟩, e4, e5, ⟨u6, e6, ⟨c6, h6, hm6⟩⟩, ⟨g9, e7, hg9, B9⟩, -⟩ := hR
    have h6' := h6
    obtain ⟨gR, k6, e6', -⟩ := h6
    subst e6'
    have B8w := B8.call hb5
    have hb5' := bCall hb hb5
    simp only [List.drop, List.take, List.map, putD, Act.put, List.setIfInBounds_toArray, List.set_cons_succ, List.set_cons_zero, Nat.reduceAdd]
    rw [e0, e1, e2, e3, e4, e5, e6, e7]
    clear e0 e1 e2 e3 e4 e5 e6 e7
    have f0 := B9.frozen 0
    have f1 := B9.frozen 1
    have d0 := B9.cell 0 rfl
    have d1 := B9.cell 1 rfl
    rw [hsz.out] at hg9 h6'
    have hI : BnI w g9 gR c6 L base ((w5.setCell ⟨g9, 0, none⟩ (.slice (some ⟨gR, 0, none⟩) L.length c6)).setCell ⟨g9, 1, none⟩ (.int .i64 base)) := BnI.start hb5' B8w B9 h6' hm6 hg9 hT.base hT.r64
    go_upto_region 2 with fail
    clear f0 f1 d0 d1 B9 h6' B8w hb5' hb5 B8 BX hb hT1
    generalize (w5.setCell ⟨g9, 0, none⟩ (.slice (some ⟨gR, 0, none⟩) L.length c6)).setCell ⟨g9, 1, none⟩ (.int .i64 base) = W1 at *
    have v0 := hI.b9.cell 0 rfl
    have v1 := hI.b9.cell 1 rfl
    have w1f := hI.b9.frozen 1
    by_cases h0 : L.length = 0
    · have t0 : ((L.length : Int) == 0) = true := by simp [h0]
      replace h0 := Kp.mk h0
      go_upto_region 4 with fail
      clear v0 v1 w1f
      have hI2 := hI.base n hn
      clear hI
      generalize W1.setCell ⟨g9, 1, none⟩ (.int .i64 n) = W2 at *
      have hD := hI2.done (by rw [h0.out]; decide)
      obtain ⟨z1, z2, z3⟩ := hD
      have y0 := hI2.b8.frozen 0
      have y1 := hI2.b8.frozen 1
      have y2 := hI2.b8.cell 0 rfl
      have y3 := hI2.b8.cell 1 rfl
      have v0 := hI2.b9.cell 0 rfl
      have v1 := hI2.b9.cell 1 rfl
      go_wp2
      refine bodyPost_ret (results_T1 rfl _ _ rfl z1) rfl ⟨⟨_, _, _, _, rfl, z2⟩, z3⟩
    · have t0 : ((L.length : Int) == 0) = false := by simp [h0]
      have hpk := Tp.pick_lt at_ (show (0 : Int) < (L.length : Int) by omega)
      have pk := fun w0 => trpick_any at_ (L.length : Int) (by omega) ha w0
      obtain ⟨q, hq⟩ := exK (Tp.pick how 6)
      rw [hq.out] at p6 hp6
      obtain ⟨kk, hkk⟩ := exK (Tp.pick at_ (L.length : Int))
      rw [hkk.out] at pk hpk
      obtain ⟨k, hk⟩ : ∃ k : Nat, kk = k := ⟨kk.toNat, by omega⟩
      subst hk
      have hkl : k < L.length := by omega
      obtain ⟨hq0, hq1⟩ := hp6
      rcases (show q = 5 ∨ q = 0 ∨ q = 1 ∨ q = 2 ∨ q = 3 ∨ q = 4 by omega) with rfl | rfl | rfl | rfl | rfl | rfl
      · clear pk
        go_upto_region 4 with (go_at_call 46; with_reducible refine (p6 _).mono ?_; rintro _ _ ⟨rfl, rfl⟩; clear p6)
        clear v0 v1 w1f
        have hI2 := hI.base n hn
        clear hI
        generalize W1.setCell ⟨g9, 1, none⟩ (.int .i64 n) = W2 at *
        have hD := hI2.done (by omega)
        obtain ⟨z1, z2, z3⟩ := hD
        have y0 := hI2.b8.frozen 0
        have y1 := hI2.b8.frozen 1
        have y2 := hI2.b8.cell 0 rfl
        have y3 := hI2.b8.cell 1 rfl
        have v0 := hI2.b9.cell 0 rfl
        have v1 := hI2.b9.cell 1 rfl
        go_wp2
        refine bodyPost_ret (results_T1 rfl _ _ rfl z1) rfl ⟨⟨_, _, _, _, rfl, z2⟩, z3⟩
      · obtain ⟨hr0, hr1, hr2, hr3⟩ := hI.r64 _ (List.getElem_mem hkl)
        obtain ⟨ck0, cf0⟩ := hI.cell hkl (j := 0) (by decide) rfl
        have ck : W1.cell? ⟨gR, k * 4, none⟩ = some (.int .i64 L[k].days) := ck0
        have cf : W1.frozen? ⟨gR, k * 4, none⟩ = false := cf0
        clear ck0 cf0
        have hI2 : BnI w g9 gR c6 (L.set k ⟨n, L[k].lo, L[k].hi, L[k].price⟩) base (W1.setCell ⟨gR, k * 4, none⟩ (.int .i64 n)) := hI.rate (r := ⟨n, L[k].lo, L[k].hi, L[k].price⟩) hkl (j := 0) (n := n) (by decide) rfl ⟨hn, hr1, hr2, hr3⟩
        go_upto_region 17 with (go_at_call 46; first | (with_reducible refine (p6 _).mono ?_; rintro _ _ ⟨rfl, rfl⟩) | (with_reducible refine (pk _).mono ?_; rintro _ _ ⟨rfl, rfl⟩))
        clear v0 v1 w1f ck cf hI
        have hl2 : (L.set k ⟨n, L[k].lo, L[k].hi, L[k].price⟩).length ≤ 6 := by rw [List.length_set]; exact hL
        generalize L.set k ⟨n, L[k].lo, L[k].hi, L[k].price⟩ = l2 at *
        generalize W1.setCell ⟨gR, k * 4, none⟩ (.int .i64 n) = W2 at *
        have hD := hI2.done (by omega)
        obtain ⟨z1, z2, z3⟩ := hD
        have y0 := hI2.b8.frozen 0
        have y1 := hI2.b8.frozen 1
        have y2 := hI2.b8.cell 0 rfl
        have y3 := hI2.b8.cell 1 rfl
        have v0 := hI2.b9.cell 0 rfl
        have v1 := hI2.b9.cell 1 rfl
        go_wp2
        refine bodyPost_ret (results_T1 rfl _ _ rfl z1) rfl ⟨⟨_, _, _, _, rfl, z2⟩, z3⟩
      · obtain ⟨hr0, hr1, hr2, hr3⟩ := hI.r64 _ (List.getElem_mem hkl)
        obtain ⟨ck0, cf0⟩ := hI.cell hkl (j := 1) (by decide) rfl
        have ck : W1.cell? ⟨gR, k * 4 + 1, none⟩ = some (.int .i64 L[k].lo) := ck0
        have cf : W1.frozen? ⟨gR, k * 4 + 1, none⟩ = false := cf0
        clear ck0 cf0
        have hI2 : BnI w g9 gR c6 (L.set k ⟨L[k].days, n, L[k].hi, L[k].price⟩) base (W1.setCell ⟨gR, k * 4 + 1, none⟩ (.int .i64 n)) := hI.rate (r := ⟨L[k].days, n, L[k].hi, L[k].price⟩) hkl (j := 1) (n := n) (by decide) rfl ⟨hr0, hn, hr2, hr3⟩
        go_upto_region 17 with (go_at_call 46; first | (with_reducible refine (p6 _).mono ?_; rintro _ _ ⟨rfl, rfl⟩) | (with_reducible refine (pk _).mono ?_; rintro _ _ ⟨rfl, rfl⟩))
        clear v0 v1 w1f ck cf hI
        have hl2 : (L.set k ⟨L[k].days, n, L[k].hi, L[k].price⟩).length ≤ 6 := by rw [List.length_set]; exact hL
        generalize L.set k ⟨L[k].days, n, L[k].hi, L[k].price⟩ = l2 at *
        generalize W1.setCell ⟨gR, k * 4 + 1, none⟩ (.int .i64 n) = W2 at *
        have hD := hI2.done (by omega)
        obtain ⟨z1, z2, z3⟩ := hD
        have y0 := hI2.b8.frozen 0
        have y1 := hI2.b8.frozen 1
        have y2 := hI2.b8.cell 0 rfl
        have y3 := hI2.b8.cell 1 rfl
        have v0 := hI2.b9.cell 0 rfl
        have v1 := hI2.b9.cell 1 rfl
        go_wp2
        refine bodyPost_ret (results_T1 rfl _ _ rfl z1) rfl ⟨⟨_, _, _, _, rfl, z2⟩, z3⟩
      · obtain ⟨hr0, hr1, hr2, hr3⟩ := hI.r64 _ (List.getElem_mem hkl)
        obtain ⟨ck0, cf0⟩ := hI.cell hkl (j := 2) (by decide) rfl
        have ck : W1.cell? ⟨gR, k * 4 + 2, none⟩ = some (.int .i64 L[k].hi) := ck0
        have cf : W1.frozen? ⟨gR, k * 4 + 2, none⟩ = false := cf0
        clear ck0 cf0
        have hI2 : BnI w g9 gR c6 (L.set k ⟨L[k].days, L[k].lo, n, L[k].price⟩) base (W1.setCell ⟨gR, k * 4 + 2, none⟩ (.int .i64 n)) := hI.rate (r := ⟨L[k].days, L[k].lo, n, L[k].price⟩) hkl (j := 2) (n := n) (by decide) rfl ⟨hr0, hr1, hn, hr3⟩
        go_upto_region 17 with (go_at_call 46; first | (with_reducible refine (p6 _).mono ?_; rintro _ _ ⟨rfl, rfl⟩) | (with_reducible refine (pk _).mono ?_; rintro _ _ ⟨rfl, rfl⟩))
        clear v0 v1 w1f ck cf hI
        have hl2 : (L.set k ⟨L[k].days, L[k].lo, n, L[k].price⟩).length ≤ 6 := by rw [List.length_set]; exact hL
        generalize L.set k ⟨L[k].days, L[k].lo, n, L[k].price⟩ = l2 at *
        generalize W1.setCell ⟨gR, k * 4 + 2, none⟩ (.int .i64 n) = W2 at *
        have hD := hI2.done (by omega)
        obtain ⟨z1, z2, z3⟩ := hD
        have y0 := hI2.b8.frozen 0
        have y1 := hI2.b8.frozen 1
        have y2 := hI2.b8.cell 0 rfl
        have y3 := hI2.b8.cell 1 rfl
        have v0 := hI2.b9.cell 0 rfl
        have v1 := hI2.b9.cell 1 rfl
        go_wp2
        refine bodyPost_ret (results_T1 rfl _ _ rfl z1) rfl ⟨⟨_, _, _, _, rfl, z2⟩, z3⟩
      · obtain ⟨hr0, hr1, hr2, hr3⟩ := hI.r64 _ (List.getElem_mem hkl)
        obtain ⟨ck0, cf0⟩ := hI.cell hkl (j := 3) (by decide) rfl
        have ck : W1.cell? ⟨gR, k * 4 + 3, none⟩ = some (.int .i64 L[k].price) := ck0
        have cf : W1.frozen? ⟨gR, k * 4 + 3, none⟩ = false := cf0
        clear ck0 cf0
        have hI2 : BnI w g9 gR c6 (L.set k ⟨L[k].days, L[k].lo, L[k].hi, n⟩) base (W1.setCell ⟨gR, k * 4 + 3, none⟩ (.int .i64 n)) := hI.rate (r := ⟨L[k].days, L[k].lo, L[k].hi, n⟩) hkl (j := 3) (n := n) (by decide) rfl ⟨hr0, hr1, hr2, hn⟩
        go_upto_region 17 with (go_at_call 46; first | (with_reducible refine (p6 _).mono ?_; rintro _ _ ⟨rfl, rfl⟩) | (with_reducible refine (pk _).mono ?_; rintro _ _ ⟨rfl, rfl⟩))
        clear v0 v1 w1f ck cf hI
        have hl2 : (L.set k ⟨L[k].days, L[k].lo, L[k].hi, n⟩).length ≤ 6 := by rw [List.length_set]; exact hL
        generalize L.set k ⟨L[k].days, L[k].lo, L[k].hi, n⟩ = l2 at *
        generalize W1.setCell ⟨gR, k * 4 + 3, none⟩ (.int .i64 n) = W2 at *
        have hD := hI2.done (by omega)
        obtain ⟨z1, z2, z3⟩ := hD
        have y0 := hI2.b8.frozen 0
        have y1 := hI2.b8.frozen 1
        have y2 := hI2.b8.cell 0 rfl
        have y3 := hI2.b8.cell 1 rfl
        have v0 := hI2.b9.cell 0 rfl
        have v1 := hI2.b9.cell 1 rfl
        go_wp2
        refine bodyPost_ret (results_T1 rfl _ _ rfl z1) rfl ⟨⟨_, _, _, _, rfl, z2⟩, z3⟩
      · obtain ⟨nn, hnn⟩ := exK (Tp.pick n 2)
        have hn2 := Tp.pick_lt n (show (0 : Int) < 2 by decide)
        have p2 := fun w0 => trpick_any n 2 (by decide) hn w0
        rw [hnn.out] at p2 hn2
        clear hpk
        replace hkk := Kp.mk hkk
        go_wp2_with (go_at_call 46; first | (with_reducible refine (p6 _).mono ?_; rintro _ _ ⟨rfl, rfl⟩) | (with_reducible refine (pk _).mono ?_; rintro _ _ ⟨rfl, rfl⟩))
        clear v0 v1 w1f p6 pk
        go_loopw [37] (fun s37 wr => ∃ (l : List Tp.Rate) (gR cR : Nat), k < l.length ∧ l.length ≤ 12 ∧ BnI w g9 gR cR l base wr) (fun _ wr => 12 - lenAt g9 wr)
        case atStart => exact ⟨L, gR, c6, hkl, by omega, hI⟩
        case round =>
          clear hI
          obtain ⟨l, gR, cR, hkl, hl12, hI⟩ := hrel
          have hla := Kp.mk (lenAt_of hI.b9)
          have r0 := fun d os => (hI.b9.again d os).cell 0 rfl
          have kp := fun d os => calls_below (p2 (Sort.grow (redrawn wr d) os))
          go_wp2_with fail
          refine wp_region_quiet_below (by kernel_rfl) (by kernel_rfl) ?_
          repeat (go_big_quiet_step (first | (go_at_call 46; with_reducible exact Calls.regrown_of (kp _ _))))
          refine wpQuiet_nil ?_
          rintro _ ⟨qq, rfl⟩
          replace hI := hI.call (below_regrown wr qq.d qq.os)
          clear kp r0
          generalize Sort.grow (redrawn wr qq.d) qq.os = W2 at *
          by_cases hlt : (l.length : Int) < 10 + nn
          · have tl : decide ((l.length : Int) < 10 + nn) = true := by simp; omega
            have hr := hI.r64 _ (List.getElem_mem hkl)
            obtain ⟨k0, -⟩ := hI.cell hkl (j := 0) (by decide) rfl
            replace k0 : W2.cell? ⟨gR, k * 4, none⟩ = some (.int .i64 l[k].days) := k0
            obtain ⟨k1, -⟩ := hI.cell hkl (j := 1) (by decide) rfl
            obtain ⟨k2, -⟩ := hI.cell hkl (j := 2) (by decide) rfl
            obtain ⟨k3, -⟩ := hI.cell hkl (j := 3) (by decide) rfl
            have hI0 := hI
            have hpush := Kp.mk (fun W3 gR' cR' => BnI.push hI (q := l[k]) hr (W3 := W3) (gR' := gR') (cR' := cR'))
            obtain ⟨cells, j1, j2, j3, j4, j5⟩ := hI.rowB
            have hne := hI.ne
            have B9 := hI.b9
            generalize l[k] = r at *
            obtain ⟨rd, rl, rh, rp⟩ := r
            go_upto_region 8 with fail
            by_cases hroom : l.length < cR
            · have hck : k * 4 + 3 < l.length * 4 := by omega
              have hcs : ∀ w2, KB (w.heap.size + 2) gR 68 cells (set4 cells (l.length * 4) (.int .i64 rd) (.int .i64 rl) (.int .i64 rh) (.int .i64 rp)) W2 w2 → w2.cell? ⟨gR, k * 4, none⟩ = some (.int .i64 rd) ∧ w2.cell? ⟨gR, k * 4 + 1, none⟩ = some (.int .i64 rl) ∧ w2.cell? ⟨gR, k * 4 + 2, none⟩ = some (.int .i64 rh) ∧ w2.cell? ⟨gR, k * 4 + 3, none⟩ = some (.int .i64 rp) := fun w2 h => by
                have q0 := cell_of j3 k0
                have q1 := cell_of j3 k1
                have q2 := cell_of j3 k2
                have q3 := cell_of j3 k3
                rcases h.2.2.1 j3 with hx | hx
                · exact ⟨hx.cell _ q0, hx.cell _ q1, hx.cell _ q2, hx.cell _ q3⟩
                · exact ⟨hx.cell _ (by rw [set4_before _ (by omega)]; exact q0), hx.cell _ (by rw [set4_before _ (by omega)]; exact q1), hx.cell _ (by rw [set4_before _ (by omega)]; exact q2), hx.cell _ (by rw [set4_before _ (by omega)]; exact q3)⟩
              have hgW := j3.lt
              have hBW : w.heap.size + 2 ≤ W2.heap.size := by omega
              clear k0 k1 k2 k3 hI
              refine RS.wp_region_rgl (cls_KB (w.heap.size + 2) gR 68 cells (set4 cells (l.length * 4) (.int .i64 rd) (.int .i64 rl) (.int .i64 rh) (.int .i64 rp))) [] [RS.Eqv (.pointer (some ⟨g9, 0, none⟩)), RS.Eqv (.slice (some ⟨gR, 0, none⟩) l.length cR), RS.Eqv (.pointer (some ⟨g9, 0, none⟩)), RS.Eqv (.slice (some ⟨gR, 0, none⟩) l.length cR), RS.Eqv (.int .i64 k), RS.Eqv (.pointer (some ⟨gR, k * 4, none⟩)), RS.Eqv (.agg #[.int .i64 rd, .int .i64 rl, .int .i64 rh, .int .i64 rp]), ElR gR 68 #[.int .i64 rd, .int .i64 rl, .int .i64 rh, .int .i64 rp] (w.heap.size + 2), ApR gR l.length cR 68 (set4 cells (l.length * 4) (.int .i64 rd) (.int .i64 rl) (.int .i64 rh) (.int .i64 rp)), RS.Eqv (.pointer (some ⟨g9, 0, none⟩))] 10 87 (by kernel_rfl) rfl rfl (by kernel_rfl) (by kernel_rfl) ?_ ?_ ?_
              · simp only [RS.AllS]
                exact ⟨RS.stab_eqv _, RS.stab_eqv _, RS.stab_eqv _, RS.stab_eqv _, RS.stab_eqv _, RS.stab_eqv _, RS.stab_eqv _, stab_elR _ _ _ _ _ _ _, stab_apR _ _ _ _ _ _ _, RS.stab_eqv _, trivial⟩
              · simp only [RS.UsersG, List.take, List.length]
                refine ⟨?_, ?_, ?_, ?_, ?_, ?_, ?_, ?_, ?_, ?_, trivial⟩
                all_goals (intro vs w2 hb2 hd; have y0 := (hb2.bx hne B9).cell 0 rfl; obtain ⟨c0, c1, c2, c3⟩ := hcs w2 hb2; simp only [RS.putD, Act.put, List.nil_append, List.cons_append, List.setIfInBounds_toArray, List.set_cons_succ, List.set_cons_zero, Nat.reduceAdd])
                · clear hd hcs; go_wp2; exact ⟨KB.rf _, rfl⟩
                · have e0 := hd 0 rfl; change vs 0 = _ at e0; clear hd hcs; rw [e0]; go_wp2; exact ⟨KB.rf _, rfl⟩
                · clear hd hcs; go_wp2; exact ⟨KB.rf _, rfl⟩
                · have e0 := hd 2 rfl; change vs 2 = _ at e0; clear hd hcs; rw [e0]; go_wp2; exact ⟨KB.rf _, rfl⟩
                · clear hd hcs; go_wp2; exact ⟨KB.rf _, rfl⟩
                · have e0 := hd 3 rfl; change vs 3 = _ at e0; have e1 := hd 4 rfl; change vs 4 = _ at e1; clear hd hcs; rw [e0, e1]; go_wp2; exact ⟨KB.rf _, rfl⟩
                · have e0 := hd 5 rfl; change vs 5 = _ at e0; clear hd hcs; rw [e0]; go_wp2; exact ⟨KB.rf _, rfl⟩
                · have e0 := hd 6 rfl; change vs 6 = _ at e0; clear hd hcs; rw [e0]; go_wp2
                  have hsz2 := hb2.1.size
                  exact ⟨KB.of (by omega) (bNewW _ _), _, rfl, by omega, by omega, Bx.mk _ _ _⟩
                · have e0 := hd 1 rfl; change vs 1 = _ at e0
                  obtain ⟨ge, e7, hne7, hB7, hbe⟩ := hd 7 rfl
                  change vs 7 = _ at e7
                  clear hd hcs
                  rw [e0, e7]
                  have hone : ∀ u ∈ [Value.int .i64 rd, .int .i64 rl, .int .i64 rh, .int .i64 rp], u.oneCell' = true := fun u hu => by simp at hu; rcases hu with rfl | rfl | rfl | rfl <;> rfl
                  obtain ⟨a1, a2⟩ := KB.app (n := l.length) (cap := cR) j1 (hb2.2.2.1 j3)
                  rcases hb2.2.2.1 j3 with hx | hx
                  · exact wpList_append_four rfl (.tmp 45) (.tmp 51) 24 68 rfl Tryz.underlying24 hi1 hs1 rfl rfl hx j4 hroom hbe hone ⟨rfl, rfl, a1, rfl, a2⟩
                  · exact wpList_append_four rfl (.tmp 45) (.tmp 51) 24 68 rfl Tryz.underlying24 hi1 hs1 rfl rfl hx (by rw [set4_size]; exact j4) hroom hbe hone ⟨rfl, rfl, a1, rfl, a2⟩
                · clear hd hcs; go_wp2; exact ⟨KB.rf _, rfl⟩
              · intro vs w3 hb3 hR
                simp only [RS.AllR, RS.Eqv] at hR
                obtain ⟨e0, e1, e2, e3, e4, e5, e6, ⟨ge, e7, -⟩, ⟨e8, hx3⟩, e9, -⟩ := hR
                clear hcs
                simp only [List.drop, List.take, List.map, RS.putD, Act.put, List.setIfInBounds_toArray, List.set_cons_succ, List.set_cons_zero, Nat.reduceAdd]
                rw [e0, e1, e2, e3, e4, e5, e6, e7, e8, e9]
                clear e0 e1 e2 e3 e4 e5 e6 e7 e8 e9
                have B93 := hb3.bx hne B9
                have y0 := B93.cell 0 rfl
                have y1 := B93.frozen 0
                have hnew := hpush.out w3 gR cR ⟨gR, _, rfl, j1, hroom, hx3, by rw [set4_size]; exact j4, by rw [← j5, Nat.add_mul]; exact set4_take cells (o := l.length * 4) (by omega) _ _ _ _⟩ hI0.cm ((hb3.1)) (hb3.bx (by omega) hI0.b8) B93
                go_wp2
                exact ⟨⟨_, gR, cR, by rw [List.length_append]; omega, by rw [List.length_append, List.length_singleton]; omega, hnew⟩, by have hl2 : lenAt g9 _ = l.length + 1 := (lenAt_of hnew.b9).trans (by rw [List.length_append, List.length_singleton]); rw [hl2, hla.out]; omega⟩
            · obtain rfl : cR = l.length := by omega
              have hrw := hI.row
              have hbb := hI.bl
              have hcs := fun w2 (h : Below W2.heap.size W2 w2) => And.intro ((h.cell (p := ⟨gR, k * 4, none⟩) j3.lt).trans k0) (And.intro ((h.cell (p := ⟨gR, k * 4 + 1, none⟩) j3.lt).trans k1) (And.intro ((h.cell (p := ⟨gR, k * 4 + 2, none⟩) j3.lt).trans k2) ((h.cell (p := ⟨gR, k * 4 + 3, none⟩) j3.lt).trans k3)))
              have hgW := j3.lt
              clear k0 k1 k2 k3 hI
              refine wp_region_rgl [Eqv (.pointer (some ⟨g9, 0, none⟩)), Eqv (.slice (some ⟨gR, 0, none⟩) l.length l.length), Eqv (.pointer (some ⟨g9, 0, none⟩)), Eqv (.slice (some ⟨gR, 0, none⟩) l.length l.length), Eqv (.int .i64 k), Eqv (.pointer (some ⟨gR, k * 4, none⟩)), Eqv (.agg #[.int .i64 rd, .int .i64 rl, .int .i64 rh, .int .i64 rp]), RowC 68 4 W2.heap.size 1 1 [.int .i64 rd, .int .i64 rl, .int .i64 rh, .int .i64 rp], RowN 68 4 (w.heap.size + 2) (l.length + 1) (l.flatMap rateC ++ [.int .i64 rd, .int .i64 rl, .int .i64 rh, .int .i64 rp]), Eqv (.pointer (some ⟨g9, 0, none⟩))] 10 87 (by kernel_rfl) rfl rfl (by kernel_rfl) ?_ ?_ ?_
              · simp only [AllS]
                exact ⟨stab_eqv _, stab_eqv _, stab_eqv _, stab_eqv _, stab_eqv _, stab_eqv _, stab_eqv _, stab_rowC _ _ _ _ _ _, stab_rowN _ _ _ _ _, stab_eqv _, trivial⟩
              · simp only [Users, List.take, List.length]
                refine ⟨?_, ?_, ?_, ?_, ?_, ?_, ?_, ?_, ?_, ?_, trivial⟩
                all_goals (intro vs w2 hb2 hd; have y0 := (B9.call hb2).cell 0 rfl; obtain ⟨c0, c1, c2, c3⟩ := hcs w2 hb2; simp only [putD, Act.put, List.nil_append, List.cons_append, List.setIfInBounds_toArray, List.set_cons_succ, List.set_cons_zero, Nat.reduceAdd])
                · clear hd hcs; go_wp2; exact ⟨Below.refl _ _, rfl⟩
                · have e0 := hd 0 rfl; change vs 0 = _ at e0; clear hd hcs; rw [e0]; go_wp2; exact ⟨Below.refl _ _, rfl⟩
                · clear hd hcs; go_wp2; exact ⟨Below.refl _ _, rfl⟩
                · have e0 := hd 2 rfl; change vs 2 = _ at e0; clear hd hcs; rw [e0]; go_wp2; exact ⟨Below.refl _ _, rfl⟩
                · clear hd hcs; go_wp2; exact ⟨Below.refl _ _, rfl⟩
                · have e0 := hd 3 rfl; change vs 3 = _ at e0; have e1 := hd 4 rfl; change vs 4 = _ at e1; clear hd hcs; rw [e0, e1]; go_wp2; exact ⟨Below.refl _ _, rfl⟩
                · have e0 := hd 5 rfl; change vs 5 = _ at e0; clear hd hcs; rw [e0]; go_wp2; exact ⟨Below.refl _ _, rfl⟩
                · have e0 := hd 6 rfl; change vs 6 = _ at e0; clear hd hcs; rw [e0]; go_wp2
                  exact ⟨(Below.refl _ _).alloc (Nat.le_refl _) _, _, _, rfl, hb2.size, Nat.le_refl _, Bx.mk _ _ _, rfl, rfl⟩
                · have e0 := hd 1 rfl; change vs 1 = _ at e0
                  have h7 : RowC 68 4 W2.heap.size 1 1 [.int .i64 rd, .int .i64 rl, .int .i64 rh, .int .i64 rp] (vs 7) w2 := hd 7 rfl
                  clear hd hcs
                  rw [e0]
                  have hsrc := RowC.src (P := Tryz.prog) (t := 24) (fun u hu => by simp at hu; rcases hu with rfl | rfl | rfl | rfl <;> rfl) Tryz.underlying24 h7
                  refine wpList_append_row rfl (.tmp 45) (.tmp 51) 24 68 rfl ii zz 4 (w.heap.size + 2) l.length l.length 1 (l.flatMap rateC) [.int .i64 rd, .int .i64 rl, .int .i64 rh, .int .i64 rp] _ (vs 7) Tryz.underlying24 hi1 hzz hs1 hz1 rfl rfl (stab_rowC _ _ _ _ _ _ _ _ _ hrw hb2) (by have := hb2.size; omega) hsrc (by unfold maxLen; omega) (by unfold maxLen; omega) (by rw [hby]; omega) ?_
                  intro v' w' cap' f1 f2 f3 f4
                  exact ⟨rfl, rfl, f2 rfl, ⟨cap', f3, f4⟩⟩
                · clear hd hcs; go_wp2; exact ⟨Below.refl _ _, rfl⟩
              · intro vs w3 hb3 hR
                simp only [AllR, Eqv] at hR
                obtain ⟨e0, e1, e2, e3, e4, e5, e6, ⟨ge, ke, e7, -⟩, ⟨c8, h8, hm8⟩, e9, -⟩ := hR
                have h8' := h8
                obtain ⟨g8, k8, e8, -⟩ := h8'
                rw [e8] at h8
                clear hcs
                simp only [List.drop, List.take, List.map, putD, Act.put, List.setIfInBounds_toArray, List.set_cons_succ, List.set_cons_zero, Nat.reduceAdd]
                rw [e0, e1, e2, e3, e4, e5, e6, e7, e8, e9]
                clear e0 e1 e2 e3 e4 e5 e6 e7 e8 e9
                have B93 := B9.call hb3
                have y0 := B93.cell 0 rfl
                have y1 := B93.frozen 0
                have hnew := hpush.out w3 g8 c8 h8 hm8 (hb3.mono (by omega)) (hI0.b8.call hb3) B93
                go_wp2
                exact ⟨⟨_, g8, c8, by rw [List.length_append]; omega, by rw [List.length_append, List.length_singleton]; omega, hnew⟩, by have hl2 : lenAt g9 _ = l.length + 1 := (lenAt_of hnew.b9).trans (by rw [List.length_append, List.length_singleton]); rw [hl2, hla.out]; omega⟩
          · have tl : decide ((l.length : Int) < 10 + nn) = false := by simp; omega
            have hD := hI.done (by omega)
            obtain ⟨z1, z2, z3⟩ := hD
            have y0 := hI.b8.frozen 0
            have y1 := hI.b8.frozen 1
            have y2 := hI.b8.cell 0 rfl
            have y3 := hI.b8.cell 1 rfl
            have v0 := hI.b9.cell 0 rfl
            have v1 := hI.b9.cell 1 rfl
            go_wp2
            refine bodyPost_ret (results_T1 rfl _ _ rfl z1) rfl ⟨⟨_, _, _, _, rfl, z2⟩, z3⟩
end Go.Proofs.YtfebcokmnhdbmaaGreatDoor
