/- times of package integer. -/
import Derived.Test.YtllnepdighhkdaaGreatDoorIBack
import Derived.RangeFuncFrom
import Derived.RangeFuncWrites
import Derived.OwnWalkIn
namespace Go.Proofs.YtllnepdighhkdaaGreatDoor
set_option linter.unusedVariables false
set_option linter.unusedSimpArgs false
open Go.RowKit Go.Shelf
attribute [local go_sem] Oper.semAt_some
/-- what indices have said, one after the other, from the highest on -/
def hor (l : List Int) (pre : List (Fin l.length)) : Nat := pre.foldl (fun a t => a * 10000 + l[t.1].toNat) 0
theorem hor_snoc (l : List Int) (pre : List (Fin l.length)) (t : Fin l.length) : hor l (pre ++ [t]) = hor l pre * 10000 + l[t.1].toNat := by simp [hor, List.foldl_append]
theorem hor_lt {l : List Int} (h : Ig.Gr l) (pre : List (Fin l.length)) : hor l pre < 10000 ^ pre.length := by
  have : ∀ (k : Nat) (pre : List (Fin l.length)), pre.length = k → hor l pre < 10000 ^ k := by
    intro k
    induction k with
    | zero => intro pre hp; rw [List.length_eq_zero_iff.1 hp]; simp [hor]
    | succ k ih =>
      intro pre hp
      rcases List.eq_nil_or_concat pre with h0 | ⟨m, t, h0⟩
      · rw [h0] at hp; simp at hp
      · obtain rfl : pre = m ++ [t] := by simpa using h0
        have h1 := ih m (by simpa using hp)
        have h2 := h l[t.1] (List.getElem_mem t.2)
        rw [hor_snoc, Nat.pow_succ]
        omega
  exact this _ _ rfl
theorem hor_take (l : List Int) (h : Ig.Gr l) : ∀ k, k ≤ l.length → ((hor l ((allDown l.length).take k) : Nat) : Int) = Ig.from_ l (l.length - k)
  | 0, _ => by rw [List.take_zero, Nat.sub_zero, Ig.from_end (Nat.le_refl _)]; rfl
  | k + 1, hk => by
    have ih := hor_take l h k (by omega)
    have ht : l.length - (k + 1) < l.length := by omega
    have hs := down_succ ht
    rw [show l.length - (l.length - (k + 1)) = k + 1 by omega, show l.length - (l.length - (k + 1) + 1) = k by omega] at hs
    have h2 := h l[l.length - (k + 1)] (List.getElem_mem ht)
    rw [hs, hor_snoc, Ig.from_step ht, show l.length - (k + 1) + 1 = l.length - k by omega, ← ih]
    simp only
    omega
theorem hor_all (b : Nat) : hor (Ig.grp b) (allDown (Ig.grp b).length) = b := by
  have h1 := hor_take (Ig.grp b) (Ig.gr_grp b) (Ig.grp b).length (Nat.le_refl _)
  rw [List.take_of_length_le (by rw [allDown_len]; omega), Nat.sub_self, Ig.from_zero, Ig.gval_grp] at h1
  omega
theorem keeps_below {W W' : World} (h : Below W.heap.size W W') (B : Nat) : KeepsFrom B W W' := ⟨h.size, fun k o _ hk _ => (h.block k (Array.getElem?_eq_some_iff.1 hk).1).trans hk⟩
section
variable {W W' : World} {row : Option Nat}
theorem bx_kept {g : Nat} {t : TypeId} {cs : Array Value} (h : Bx W g t cs) (hg : W.grownBy W' row) (hr : ∀ r, row = some r → ∃ o : Obj, W.heap[r]? = some o ∧ o.isCells = false) : Bx W' g t cs :=
  (hg.block g h.lt (fun e => by
    obtain ⟨o, ho, hc⟩ := hr g e.symm
    rw [show W.heap[g]? = _ from h] at ho
    cases ho; cases hc)).trans h
theorem at_kept {α : Type} {size : Nat} {f : α → List Value} {A : Option Addr} {p : List α} (h : At size f W W.heap.size A p) (hg : W.grownBy W' row) (hr : ∀ r, row = some r → ∃ o : Obj, W.heap[r]? = some o ∧ o.isCells = false) : At size f W' W'.heap.size A p := fun h0 => by
  obtain ⟨b, off, e, hb, hc⟩ := h h0
  exact ⟨b, off, e, Nat.lt_of_lt_of_le hb hg.size, fun i c hi j u hj => cell_kept (hc i c hi j u hj) hg hr⟩
theorem num_kept {a : Nat} {v : Value} (h : NumAt W a v) (hg : W.grownBy W' row) (hr : ∀ r, row = some r → ∃ o : Obj, W.heap[r]? = some o ∧ o.isCells = false) : NumAt W' a v := by
  obtain ⟨A, cap, h1, h2, h3, h4⟩ := h.out
  exact ⟨A, cap, h1, at_kept h2 hg hr, h3, h4⟩
end
theorem grp_mul_len {a b m n : Nat} (ha : (Ig.grp a).length ≤ m) (hb : b < 10000 ^ n) : (Ig.grp (a * b)).length ≤ m + n := by
  refine Ig.grp_len ?_
  rw [Nat.pow_add]
  exact Nat.mul_lt_mul'' (Nat.lt_of_lt_of_le (Ig.grp_lt a) (Nat.pow_le_pow_right (by decide) ha)) hb
theorem one_pow4 {d : Nat} (h : d < 10000) : d < 10000 ^ 1 := by rw [Nat.pow_one]; exact h
theorem grp_shift_len {a m : Nat} (ha : (Ig.grp a).length ≤ m) : (Ig.grp (a * 10000)).length ≤ m + 1 := by
  refine Ig.grp_len ?_
  rw [Nat.pow_succ]
  exact Nat.mul_lt_mul_of_pos_right (Nat.lt_of_lt_of_le (Ig.grp_lt a) (Nat.pow_le_pow_right (by decide) ha)) (by decide)
/-- a store into a box that holds a slice leaves the numbers alone -/
theorem at_set {W : World} {g : Nat} {t : TypeId} {A A' : Option Addr} {n c B : Nat} {p : List Int} (hB : Bx W g t #[.slice A n c]) (h : At 1 intC W B A' p) (u : Value) : At 1 intC (W.setCell ⟨g, 0, none⟩ u) B A' p := fun h0 => by
  obtain ⟨b, off, e, hb, hc⟩ := h h0
  have hne : b ≠ g := by
    rintro rfl
    have h1 := hc 0 p[0] (List.getElem?_eq_getElem h0) 0 (.int .i64 p[0]) rfl
    unfold Bx at hB
    rw [World.cell?, hB] at h1
    rcases Nat.eq_zero_or_pos off with h2 | h2
    · subst h2; simp at h1
    · obtain ⟨k, rfl⟩ := Nat.exists_eq_succ_of_ne_zero (Nat.ne_of_gt h2)
      simp at h1
  exact ⟨b, off, e, hb, fun i c hi j v hj => (cell_block (Below.heap_setCell W ⟨g, 0, none⟩ u b hne)).trans (hc i c hi j v hj)⟩
theorem num_set {W : World} {g : Nat} {t : TypeId} {A : Option Addr} {n c a : Nat} {v : Value} (hB : Bx W g t #[.slice A n c]) (h : NumAt W a v) (u : Value) : NumAt (W.setCell ⟨g, 0, none⟩ u) a v := by
  obtain ⟨A', cap, h1, h2, h3, h4⟩ := h.out
  exact ⟨A', cap, h1, (at_set hB h2 u).more (KeepsOthers.setCell W _ u).size, h3, h4⟩
/-- between two rounds: what the boxes hold -/
structure TimesI (w : World) (v1 : Value) (x : Nat) (W : World) : Prop where
  hb : Below w.heap.size w W
  le : w.heap.size + 3 ≤ W.heap.size
  B1 : Bx W w.heap.size 98 #[v1]
  out : ∃ v, Bx W (w.heap.size + 1) 98 #[v] ∧ NumAt W x v
set_option maxRecDepth 100000 in
set_option maxHeartbeats 4000000 in
theorem times_any (a b : Nat) (v1 v2 : Value) (w : World) (h1 : NumAt w a v1) (h2 : NumAt w b v2) (la : (Ig.grp a).length ≤ 20000) (lb : (Ig.grp b).length ≤ 20000) :
    Calls Tryz.prog 90 #[v1, v2] w fun e w' => ∃ v, e = .returned v ∧ NumAt w' (a * b) v ∧ Below w.heap.size w w' := by
  obtain ⟨A1, c1, rfl, hA1, hn1, hm1⟩ := h1.out
  obtain ⟨A2, c2, rfl, hA2, hn2, hm2⟩ := h2.out
  refine (callsIn_wide (n := 3)).1 ?_
  refine callsIn_of_wp_marks Tryz.func90 rfl trivial ?_ rfl
  simp only [Tryz.ntmps90, List.size_toArray, List.length_cons, List.length_nil, Nat.reduceAdd, Nat.reduceSub, Array.replicate_succ, Array.replicate_zero, List.push_toArray, List.append_toArray, List.nil_append, List.cons_append]
  gi_wp2_with (refine ⟨trivial, ?_⟩; gi_at_call 148; refine (back_in Fence.wide 2 trivial rfl _ _ _ _).mono ?_; rintro e w' ⟨rfl, rfl⟩)
  have hb0 := bNew (bNew (bNewW w (.cells #[.slice A1 (Ig.grp a).length c1] 98)) (.cells #[.slice none 0 0] 98)) (.cells #[.slice A2 (Ig.grp b).length c2] 98)
  have B1 := ((Bx.mk w 98 #[.slice A1 (Ig.grp a).length c1]).new (.cells #[.slice none 0 0] 98)).new (.cells #[.slice A2 (Ig.grp b).length c2] 98)
  have B5 := (Bx.mk (w.alloc (.cells #[.slice A1 (Ig.grp a).length c1] 98)) 98 #[.slice none 0 0]).new (.cells #[.slice A2 (Ig.grp b).length c2] 98)
  have B7 := Bx.mk ((w.alloc (.cells #[.slice A1 (Ig.grp a).length c1] 98)).alloc (.cells #[.slice none 0 0] 98)) 98 #[.slice A2 (Ig.grp b).length c2]
  have hsz : (((w.alloc (.cells #[.slice A1 (Ig.grp a).length c1] 98)).alloc (.cells #[.slice none 0 0] 98)).alloc (.cells #[.slice A2 (Ig.grp b).length c2] 98)).heap.size = w.heap.size + 3 := by rw [alloc_size, alloc_size, alloc_size]
  rw [alloc_size] at B5
  rw [alloc_size, alloc_size] at B7
  generalize (((w.alloc (.cells #[.slice A1 (Ig.grp a).length c1] 98)).alloc (.cells #[.slice none 0 0] 98)).alloc (.cells #[.slice A2 (Ig.grp b).length c2] 98)) = W0 at *
  refine wpIn_rangeFunc_ownG rfl (by decide) (gf := 178) (lb := #[.pointer (some ⟨w.heap.size + 1 + 1, 0, none⟩)]) rfl trivial (enters_of Tryz.func178 (by kernel_rfl) rfl)
    (back_stops Fence.wide 2 trivial rfl (by decide) (w.heap.size + 1 + 1) w.heap.size A2 c2 (Ig.grp b) (by omega) W0 (by omega) (by omega) (B7.cell 0 rfl) (hA2.below hb0)) KpB.trans (kpB_b (by omega) (by omega)) (Below.refl _ _) (fun _ => rfl)
    (fun pre W => TimesI w (.slice A1 (Ig.grp a).length c1) (a * hor (Ig.grp b) pre) W) (fun _ _ _ => False)
    (fun pre W W' row hs hg hr => ⟨hs.hb.grown hg hs.hb.size (fun k e => by have := (hr k e).1; omega), Nat.le_trans hs.le hg.size, bx_kept hs.B1 hg (fun r e => (hr r e).2), by obtain ⟨v, h1, h2⟩ := hs.out; exact ⟨v, bx_kept h1 hg (fun r e => (hr r e).2), num_kept h2 hg (fun r e => (hr r e).2)⟩⟩)
    (fun _ _ _ _ _ hs _ _ => hs)
    ⟨hb0, by omega, B1, _, B5, ⟨none, 0, by simp [hor, Ig.grp_zero], by simp only [hor, List.foldl_nil, Nat.mul_zero, Ig.grp_zero]; exact At.nil, by simp [hor, Ig.grp_zero], Nat.zero_le _⟩⟩
    (fun x => { tmps := #[.slice A1 (Ig.grp a).length c1, .slice A2 (Ig.grp b).length c2, .pointer (some ⟨w.heap.size, 0, none⟩), undef, .slice none 0 0, .pointer (some ⟨w.heap.size + 1, 0, none⟩), undef, .int .i64 (Ig.grp b)[x.1], .slice A2 (Ig.grp b).length c2,
      .func (.func 178) #[] #[.pointer (some ⟨w.heap.size + 1 + 1, 0, none⟩)], .int .i64 (x.1 : Int), .int .i64 (Ig.grp b)[x.1], undef, undef, undef, undef, undef, undef, undef, undef, undef, undef, undef, undef], defers := [] }) ?assign ?body ?done ?stop
  case assign =>
    intro l x W K hK
    simp only [handed]
    gi_wp2
    exact hK
  case body =>
    rintro l pre x W ⟨hb, hle, B1', v, B5', hN⟩ hlt
    have hgx := Ig.gr_grp b (Ig.grp b)[x.1] (List.getElem_mem x.2)
    obtain ⟨d, hd⟩ := Int.eq_ofNat_of_zero_le hgx.1
    have hd9 : d < 10000 := by omega
    have hsn : Kp (a * hor (Ig.grp b) (pre ++ [x]) = a * hor (Ig.grp b) pre * 10000 + a * d) := ⟨by rw [hor_snoc, hd, Int.toNat_natCast, Nat.mul_add, Nat.mul_assoc]⟩
    have hlx := hor_lt (Ig.gr_grp b) pre
    have hpl : pre.length ≤ 20000 := by omega
    have hay0 : (Ig.grp (a * hor (Ig.grp b) pre)).length ≤ 20000 + pre.length := grp_mul_len la hlx
    have hay : (Ig.grp (a * hor (Ig.grp b) pre)).length ≤ 40000 := by omega
    have hay2 : (Ig.grp (a * hor (Ig.grp b) pre * 10000)).length ≤ 40000 + 1 := grp_shift_len hay
    have had : (Ig.grp (a * d)).length ≤ 20000 + 1 := grp_mul_len la (one_pow4 hd9)
    clear hay0
    have hNa : NumAt W a (.slice A1 (Ig.grp a).length c1) := ⟨A1, c1, rfl, (hA1.below hb).more hb.size, hn1, hm1⟩
    have hlt7 : w.heap.size + 1 + 1 < W.heap.size := by have := hle; omega
    generalize hor (Ig.grp b) pre = y at *
    simp only [hd]
    clear hlx hpl hgx hd
    by_cases hy : a * y = 0
    · obtain ⟨A5, c5, rfl, hA5, hn5, hm5⟩ := hN.out
      have hl0 : (Ig.grp (a * y)).length = 0 := by rw [hy, Ig.grp_zero]; rfl
      have hcell := B5'.cell 0 rfl
      rw [hl0] at hcell
      have hNv : NumAt W (a * y * 10000) (.slice A5 0 c5) := by
        rw [hl0] at hN
        rw [hy] at hN ⊢
        exact hN
      rw [hl0] at B5'
      gi_wp2
      have B16 := B1'; have B56 := B5'; have hb6 := hb
      have hkf6 := KeepsFrom.refl W0.heap.size W
      have hkp6 := KpB.refl w.heap.size (w.heap.size + 1 + 1) W
      obtain ⟨W6, hW6⟩ : ∃ W6, W6 = W := ⟨_, rfl⟩
      obtain ⟨v6, hv6⟩ : ∃ v6, v6 = Value.slice A5 0 c5 := ⟨_, rfl⟩
      rw [← hv6] at B56 hNv
      replace hkf6 : KeepsFrom W0.heap.size W W6 := by rw [hW6]; exact hkf6
      replace hkp6 : KpB w.heap.size (w.heap.size + 1 + 1) W W6 := by rw [hW6]; exact hkp6
      rw [← hW6] at B16 B56 hb6 hNa hNv
      clear hb
      have hlt6 : w.heap.size + 1 + 1 < W6.heap.size := by rw [hW6]; exact hlt7
      rw [← hW6]
      clear hv6
      clear hW6
      have cc := fun w1 (hb1 : Below W6.heap.size W6 w1) => (hb1.cell (p := ⟨w.heap.size + 1, 0, none⟩) B56.lt).trans (B56.cell 0 rfl)
      have cd := fun w1 (hb1 : Below W6.heap.size W6 w1) => (hb1.cell (p := ⟨w.heap.size, 0, none⟩) B16.lt).trans (B16.cell 0 rfl)
      refine wpIn_region_rgl [Eqv v6, Eqv (.slice A1 (Ig.grp a).length c1), Eqv (.int .i64 d), (fun v W => NumAt W (a * d) v), (fun v W => NumAt W (a * y * 10000 + a * d) v)] 5 24 (by kernel_rfl) (by kernel_rfl) rfl rfl (by kernel_rfl) ?_ ?_ ?_
      · simp only [AllS]
        exact ⟨stab_eqv _, stab_eqv _, stab_eqv _, fun v w w' h hb => h.call hb, fun v w w' h hb => h.call hb, trivial⟩
      · simp only [Users, List.take, List.length]
        refine ⟨?_, ?_, ?_, ?_, ?_, trivial⟩
        all_goals (intro vs w1 hb1 hd; have c3 := cc w1 hb1; have c4 := cd w1 hb1; have hN1 := hNa.call hb1; have hN6 := hNv.call hb1; clear cc cd; simp only [putD, Act.put, List.nil_append, List.cons_append, List.setIfInBounds_toArray, List.set_cons_succ, List.set_cons_zero, Nat.reduceAdd])
        · clear hd; go_wp2; exact ⟨Below.refl _ _, rfl⟩
        · clear hd; go_wp2; exact ⟨Below.refl _ _, rfl⟩
        · clear hd; go_wp2; exact ⟨Below.refl _ _, rfl⟩
        · have h1 : vs 1 = .slice A1 (Ig.grp a).length c1 := hd 1 rfl
          have h2 : vs 2 = .int .i64 d := hd 2 rfl
          clear hd
          rw [h1, h2]
          go_wp2_with fail
          have hC := by_any a d _ _ hN1 (by omega) (by omega)
          refine hC.mono ?_
          clear hC
          rintro _ w9 ⟨v9, rfl, hn9, hb9⟩
          go_wp2
          exact hn9
        · have h0 : vs 0 = v6 := hd 0 rfl
          have h3 : NumAt w1 (a * d) (vs 3) := hd 3 rfl
          clear hd
          rw [h0]
          go_wp2_with fail
          have hC := plus_any (a * y * 10000) (a * d) v6 (vs 3) w1 hN6 h3 (by omega) (by omega)
          generalize a * y * 10000 = p1 at *
          generalize a * d = p2 at *
          refine hC.mono ?_
          clear hC
          rintro _ w9 ⟨v9, rfl, hn9, hb9⟩
          go_wp2
          exact hn9
      · clear cc cd
        intro vs wa hba hR
        simp only [AllR, Eqv] at hR
        obtain ⟨-, -, -, -, e4, -⟩ := hR
        simp only [List.drop, List.take, List.map, putD, Act.put, List.setIfInBounds_toArray, List.set_cons_succ, List.set_cons_zero, Nat.reduceAdd]
        have B1a := B16.call hba
        have B5a := B56.call hba
        have hfr := B5a.frozen 0
        have hce := B5a.cell 0 rfl
        have hba2 := bCall hb6 hba
        have hkf := hkf6.trans (keeps_below hba W0.heap.size)
        have hkp : KpB w.heap.size (w.heap.size + 1 + 1) W wa := hkp6.trans ⟨hba.mono (by have := hb6.size; omega), hba.block _ hlt6⟩
        generalize vs 4 = z4 at *
        generalize vs 0 = z0, vs 1 = z1, vs 2 = z2, vs 3 = z3
        obtain ⟨A9, c9, rfl, hA9, hn9, hm9⟩ := e4.out
        obtain ⟨A8, c8, rfl, -, -, -⟩ := hNv.out
        clear hA9 hn9 hm9 hNv
        generalize (Ig.grp (a * y * 10000 + a * d)).length = n9 at *
        generalize (Ig.grp (a * y * 10000)).length = n8 at *
        go_wp2
        refine ⟨hkf.trans ((KeepsOthers.setCell _ _ _).from _), hkp.trans ⟨(Below.refl _ _).setCell (Nat.le_succ _) _, Below.heap_setCell _ _ _ _ (by simp)⟩, bSet hba2 (Nat.le_succ _) _, Nat.le_trans hle (Nat.le_trans hkp.1.size (KeepsOthers.setCell _ _ _).size), B1a.far (by simp) _, _, B5a.set 0 _, ?_⟩
        rw [hsn.out]
        exact num_set B5a e4 _
    · obtain ⟨A5, c5, rfl, hA5, hn5, hm5⟩ := hN.out
      have hl0 : ((Ig.grp (a * y)).length : Int) > 0 := by
        have : (Ig.grp (a * y)).length ≠ 0 := fun h => hy (Ig.grp_eq_nil.1 h)
        omega
      have hcell := B5'.cell 0 rfl
      have B51 := B5'.new (.cells #[.int .i64 0] 3)
      have hcell1 := B51.cell 0 rfl
      have hP : Src Tryz.prog 1 98 (.slice A5 (Ig.grp (a * y)).length c5) (Ig.grp (a * y)).length ((Ig.grp (a * y)).flatMap intC) (W.alloc (.cells #[.int .i64 0] 3)) := At.src (f := intC) (size := 1) (e := 3) (fun _ => rfl) (fun c u hu => by simp [intC] at hu; subst hu; rfl) Tryz.underlying98 (hA5.below (bNewW W _)) c5
      gi_wp2_with (gi_at_builtin; refine wpListIn_of _ _ _ (by kernel_rfl) ?_; refine wpList_append_nums rfl (.tmp 15) (.tmp 16) rfl W.heap.size 1 1 (Ig.grp (a * y)).length [.int .i64 0] ((Ig.grp (a * y)).flatMap intC) _ _ rfl rfl ⟨W.heap.size, _, rfl, Nat.le_refl _, Nat.le_refl _, Bx.mk _ _ _, rfl, rfl⟩ (by rw [alloc_size]; omega) hP (by decide) (by omega) ?_; intro v' w' cap' e1 e2 e3 e4; have hb7 := (bNewW W (.cells #[.int .i64 0] 3)).trans ((e2 rfl).mono (by rw [alloc_size]; omega)); have B57 := B5'.call hb7; have hce7 := B57.cell 0 rfl; have hfr7 := B57.frozen 0; have hsh : ∃ g7, v' = .slice (some ⟨g7, 0, none⟩) (1 + (Ig.grp (a * y)).length) cap' := (by obtain ⟨g7, _, h, _⟩ := e3; exact ⟨g7, h⟩); obtain ⟨g7, rfl⟩ := hsh)
      go_wp2
      gi_wp2
      have hfl : Kp ([Value.int .i64 0] ++ (Ig.grp (a * y)).flatMap intC = (Ig.grp (a * y * 10000)).flatMap intC) := ⟨by rw [Nat.mul_comm (a * y) 10000, ← Ig.grp_shift hy]; rfl⟩
      have hll : 1 + (Ig.grp (a * y)).length = (Ig.grp (a * y * 10000)).length := by rw [Nat.mul_comm (a * y) 10000, ← Ig.grp_shift hy, List.length_cons]; omega
      rw [hfl.out, hll] at e3
      rw [hll]
      have hNv0 : NumAt w' (a * y * 10000) (.slice (some ⟨g7, 0, none⟩) (Ig.grp (a * y * 10000)).length cap') := by
        obtain ⟨A, h1, h2, h3⟩ := RowC.at (f := intC) (size := 1) (fun _ => rfl) e3
        exact ⟨A, cap', h1, h2, h3, e4⟩
      generalize (Ig.grp (a * y * 10000)).length = n8 at hNv0 ⊢
      have B56 := B57.set 0 (.slice (some ⟨g7, 0, none⟩) n8 cap')
      have B16 := (B1'.call hb7).far (p := ⟨w.heap.size + 1, 0, none⟩) (by simp) (.slice (some ⟨g7, 0, none⟩) n8 cap')
      have hb6 := bSet (bCall hb hb7) (p := ⟨w.heap.size + 1, 0, none⟩) (Nat.le_succ _) (.slice (some ⟨g7, 0, none⟩) n8 cap')
      have hkf6 := (keeps_below hb7 W0.heap.size).trans ((KeepsOthers.setCell w' ⟨w.heap.size + 1, 0, none⟩ (.slice (some ⟨g7, 0, none⟩) n8 cap')).from W0.heap.size)
      have hkp6 : KpB w.heap.size (w.heap.size + 1 + 1) W (w'.setCell ⟨w.heap.size + 1, 0, none⟩ (.slice (some ⟨g7, 0, none⟩) n8 cap')) := KpB.trans ⟨hb7.mono (by omega), hb7.block _ hlt7⟩ ⟨(Below.refl _ _).setCell (Nat.le_succ _) _, Below.heap_setCell _ _ _ _ (by simp)⟩
      have hlt6 : w.heap.size + 1 + 1 < (w'.setCell ⟨w.heap.size + 1, 0, none⟩ (.slice (some ⟨g7, 0, none⟩) n8 cap')).heap.size := Nat.lt_of_lt_of_le hlt7 hkp6.1.size
      replace hNa := num_set B57 (hNa.call hb7) (.slice (some ⟨g7, 0, none⟩) n8 cap')
      have hNv := num_set B57 hNv0 (.slice (some ⟨g7, 0, none⟩) n8 cap')
      clear hNv0 B51 hcell1 hP e1 e2 e3 e4 hfl hll hce7 hfr7 B57 hb7 hcell hN hA5 hn5 hm5
      simp only [Array.setIfInBounds, List.size_toArray, List.length_cons, List.length_nil, Nat.zero_add, Nat.lt_add_one, dite_true, List.set_toArray, List.set_cons_zero] at B56
      generalize w'.setCell ⟨w.heap.size + 1, 0, none⟩ (.slice (some ⟨g7, 0, none⟩) n8 cap') = W6 at *
      obtain ⟨v6, hv6⟩ : ∃ v6, v6 = Value.slice (some ⟨g7, 0, none⟩) n8 cap' := ⟨_, rfl⟩
      rw [← hv6] at B56 hNv
      clear hv6
      have cc := fun w1 (hb1 : Below W6.heap.size W6 w1) => (hb1.cell (p := ⟨w.heap.size + 1, 0, none⟩) B56.lt).trans (B56.cell 0 rfl)
      have cd := fun w1 (hb1 : Below W6.heap.size W6 w1) => (hb1.cell (p := ⟨w.heap.size, 0, none⟩) B16.lt).trans (B16.cell 0 rfl)
      refine wpIn_region_rgl [Eqv v6, Eqv (.slice A1 (Ig.grp a).length c1), Eqv (.int .i64 d), (fun v W => NumAt W (a * d) v), (fun v W => NumAt W (a * y * 10000 + a * d) v)] 5 24 (by kernel_rfl) (by kernel_rfl) rfl rfl (by kernel_rfl) ?_ ?_ ?_
      · simp only [AllS]
        exact ⟨stab_eqv _, stab_eqv _, stab_eqv _, fun v w w' h hb => h.call hb, fun v w w' h hb => h.call hb, trivial⟩
      · simp only [Users, List.take, List.length]
        refine ⟨?_, ?_, ?_, ?_, ?_, trivial⟩
        all_goals (intro vs w1 hb1 hd; have c3 := cc w1 hb1; have c4 := cd w1 hb1; have hN1 := hNa.call hb1; have hN6 := hNv.call hb1; clear cc cd; simp only [putD, Act.put, List.nil_append, List.cons_append, List.setIfInBounds_toArray, List.set_cons_succ, List.set_cons_zero, Nat.reduceAdd])
        · clear hd; go_wp2; exact ⟨Below.refl _ _, rfl⟩
        · clear hd; go_wp2; exact ⟨Below.refl _ _, rfl⟩
        · clear hd; go_wp2; exact ⟨Below.refl _ _, rfl⟩
        · have h1 : vs 1 = .slice A1 (Ig.grp a).length c1 := hd 1 rfl
          have h2 : vs 2 = .int .i64 d := hd 2 rfl
          clear hd
          rw [h1, h2]
          go_wp2_with fail
          have hC := by_any a d _ _ hN1 (by omega) (by omega)
          refine hC.mono ?_
          clear hC
          rintro _ w9 ⟨v9, rfl, hn9, hb9⟩
          go_wp2
          exact hn9
        · have h0 : vs 0 = v6 := hd 0 rfl
          have h3 : NumAt w1 (a * d) (vs 3) := hd 3 rfl
          clear hd
          rw [h0]
          go_wp2_with fail
          have hC := plus_any (a * y * 10000) (a * d) v6 (vs 3) w1 hN6 h3 (by omega) (by omega)
          generalize a * y * 10000 = p1 at *
          generalize a * d = p2 at *
          refine hC.mono ?_
          clear hC
          rintro _ w9 ⟨v9, rfl, hn9, hb9⟩
          go_wp2
          exact hn9
      · clear cc cd
        intro vs wa hba hR
        simp only [AllR, Eqv] at hR
        obtain ⟨-, -, -, -, e4, -⟩ := hR
        simp only [List.drop, List.take, List.map, putD, Act.put, List.setIfInBounds_toArray, List.set_cons_succ, List.set_cons_zero, Nat.reduceAdd]
        have B1a := B16.call hba
        have B5a := B56.call hba
        have hfr := B5a.frozen 0
        have hce := B5a.cell 0 rfl
        have hba2 := bCall hb6 hba
        have hkf := hkf6.trans (keeps_below hba W0.heap.size)
        have hkp : KpB w.heap.size (w.heap.size + 1 + 1) W wa := hkp6.trans ⟨hba.mono (by have := hb6.size; omega), hba.block _ hlt6⟩
        generalize vs 4 = z4 at *
        generalize vs 0 = z0, vs 1 = z1, vs 2 = z2, vs 3 = z3
        obtain ⟨A9, c9, rfl, hA9, hn9, hm9⟩ := e4.out
        obtain ⟨A8, c8, rfl, -, -, -⟩ := hNv.out
        clear hA9 hn9 hm9 hNv
        generalize (Ig.grp (a * y * 10000 + a * d)).length = n9 at *
        generalize (Ig.grp (a * y * 10000)).length = n8 at *
        go_wp2
        refine ⟨hkf.trans ((KeepsOthers.setCell _ _ _).from _), hkp.trans ⟨(Below.refl _ _).setCell (Nat.le_succ _) _, Below.heap_setCell _ _ _ _ (by simp)⟩, bSet hba2 (Nat.le_succ _) _, Nat.le_trans hle (Nat.le_trans hkp.1.size (KeepsOthers.setCell _ _ _).size), B1a.far (by simp) _, _, B5a.set 0 _, ?_⟩
        rw [hsn.out]
        exact num_set B5a e4 _
  case done =>
    rintro D ys W hD rfl ⟨hb, hle, B1', v, B5', hN⟩ hK
    have c5 := B5'.cell 0 rfl
    rw [hor_all] at hN
    gi_wp2
    refine ⟨by simp, .inl ⟨_, _, rfl, run_takeDeferred hK, ?_⟩⟩
    have hg := grownBy_putObj' W D (.deferred none)
    have hr : ∀ r, some D = some r → ∃ o : Obj, W.heap[r]? = some o ∧ o.isCells = false := fun r e => by cases e; exact ⟨_, hK, rfl⟩
    exact ⟨_, results_tmp rfl _ _ _, v, rfl, num_kept hN hg hr, hb.trans (belowK_b (w := w) (Nat.le_refl _) W D _ _ (by omega) hK rfl rfl)⟩
  case stop =>
    rintro D c pre W _ _ h _
    exact h.elim
end Go.Proofs.YtllnepdighhkdaaGreatDoor
