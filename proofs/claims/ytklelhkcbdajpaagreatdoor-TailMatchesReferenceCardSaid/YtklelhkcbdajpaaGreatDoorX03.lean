/- times of package integer. strings.Builder at this dump: copyCheck, WriteString, String, of a builder of the call's own. Texts of numbers: plain. text of package integer. cmp.Compare[int], and compare of package integer. compare of package integer. -/
import Derived.Test.YtklelhkcbdajpaaGreatDoorX02
import Derived.RangeFuncFrom
import Derived.RangeFuncWrites
import Derived.OwnWalkIn
import Derived.Lib.Builder
import Derived.Lib.AppendStr
import Derived.Lib.UnsafeStr
import Derived.Lib.OthersKept
import Derived.Shelf.RegionOpenPlain
set_option linter.unusedVariables false
set_option linter.unusedSimpArgs false
set_option maxRecDepth 100000
set_option maxHeartbeats 8000000
namespace Go.Proofs.YtklelhkcbdajpaaGreatDoor
open Go.RowKit Go.Shelf
attribute [local go_sem] Oper.semAt_some
def hor (l : List Int) (pre : List (Fin l.length)) : Nat := pre.foldl (fun a t => a * 10000 + l[t.1].toNat) 0
theorem hor_snoc (l : List Int) (pre : List (Fin l.length)) (t : Fin l.length) : hor l (pre ++ [t]) = hor l pre * 10000 + l[t.1].toNat := by simp [hor, List.foldl_append]
theorem hor_lt {l : List Int} (h : Ig.Gr l) (pre : List (Fin l.length)) : hor l pre < 10000 ^ pre.length := by
  have : ∀ (k : Nat) (pre : List (Fin l.length)), pre.length = k → hor l pre < 10000 ^ k := by
    intro k
    induction k with
    | zero => intro pre hp; rw [List.length_eq_zero_iff.1 hp]; simp [hor]
    | succ k ih =>
      intro pre hp
      rcases List.eq_nil_or_concat pre with h0 | ⟨m, t, h0⟩
      · rw [h0] at hp; simp at hp
      · obtain rfl : pre = m ++ [t] := by simpa using h0
        have h1 := ih m (by simpa using hp)
        have h2 := h l[t.1] (List.getElem_mem t.2)
        rw [hor_snoc, Nat.pow_succ]
        omega
  exact this _ _ rfl
theorem hor_take (l : List Int) (h : Ig.Gr l) : ∀ k, k ≤ l.length → ((hor l ((allDown l.length).take k) : Nat) : Int) = Ig.from_ l (l.length - k)
  | 0, _ => by rw [List.take_zero, Nat.sub_zero, Ig.from_end (Nat.le_refl _)]; rfl
  | k + 1, hk => by
    have ih := hor_take l h k (by omega)
    have ht : l.length - (k + 1) < l.length := by omega
    have hs := down_succ ht
    rw [show l.length - (l.length - (k + 1)) = k + 1 by omega, show l.length - (l.length - (k + 1) + 1) = k by omega] at hs
    have h2 := h l[l.length - (k + 1)] (List.getElem_mem ht)
    rw [hs, hor_snoc, Ig.from_step ht, show l.length - (k + 1) + 1 = l.length - k by omega, ← ih]
    simp only
    omega
theorem hor_all (b : Nat) : hor (Ig.grp b) (allDown (Ig.grp b).length) = b := by
  have h1 := hor_take (Ig.grp b) (Ig.gr_grp b) (Ig.grp b).length (Nat.le_refl _)
  rw [List.take_of_length_le (by rw [allDown_len]; omega), Nat.sub_self, Ig.from_zero, Ig.gval_grp] at h1
  omega
theorem keeps_below {W W' : World} (h : Below W.heap.size W W') (B : Nat) : KeepsFrom B W W' := ⟨h.size, fun k o _ hk _ => (h.block k (Array.getElem?_eq_some_iff.1 hk).1).trans hk⟩
section
variable {W W' : World} {row : Option Nat}
theorem bx_kept {g : Nat} {t : TypeId} {cs : Array Value} (h : Bx W g t cs) (hg : W.grownBy W' row) (hr : ∀ r, row = some r → ∃ o : Obj, W.heap[r]? = some o ∧ o.isCells = false) : Bx W' g t cs :=
  (hg.block g h.lt (fun e => by
    obtain ⟨o, ho, hc⟩ := hr g e.symm
    rw [show W.heap[g]? = _ from h] at ho
    cases ho; cases hc)).trans h
theorem at_kept {α : Type} {size : Nat} {f : α → List Value} {A : Option Addr} {p : List α} (h : At size f W W.heap.size A p) (hg : W.grownBy W' row) (hr : ∀ r, row = some r → ∃ o : Obj, W.heap[r]? = some o ∧ o.isCells = false) : At size f W' W'.heap.size A p := fun h0 => by
  obtain ⟨b, off, e, hb, hc⟩ := h h0
  exact ⟨b, off, e, Nat.lt_of_lt_of_le hb hg.size, fun i c hi j u hj => cell_kept (hc i c hi j u hj) hg hr⟩
theorem num_kept {a : Nat} {v : Value} (h : NumAt W a v) (hg : W.grownBy W' row) (hr : ∀ r, row = some r → ∃ o : Obj, W.heap[r]? = some o ∧ o.isCells = false) : NumAt W' a v := by
  obtain ⟨A, cap, h1, h2, h3, h4⟩ := h.out
  exact ⟨A, cap, h1, at_kept h2 hg hr, h3, h4⟩
end
theorem grp_mul_len {a b m n : Nat} (ha : (Ig.grp a).length ≤ m) (hb : b < 10000 ^ n) : (Ig.grp (a * b)).length ≤ m + n := by
  refine Ig.grp_len ?_
  rw [Nat.pow_add]
  exact Nat.mul_lt_mul'' (Nat.lt_of_lt_of_le (Ig.grp_lt a) (Nat.pow_le_pow_right (by decide) ha)) hb
theorem one_pow4 {d : Nat} (h : d < 10000) : d < 10000 ^ 1 := by rw [Nat.pow_one]; exact h
theorem grp_shift_len {a m : Nat} (ha : (Ig.grp a).length ≤ m) : (Ig.grp (a * 10000)).length ≤ m + 1 := by
  refine Ig.grp_len ?_
  rw [Nat.pow_succ]
  exact Nat.mul_lt_mul_of_pos_right (Nat.lt_of_lt_of_le (Ig.grp_lt a) (Nat.pow_le_pow_right (by decide) ha)) (by decide)
theorem at_set {W : World} {g : Nat} {t : TypeId} {A A' : Option Addr} {n c B : Nat} {p : List Int} (hB : Bx W g t #[.slice A n c]) (h : At 1 intC W B A' p) (u : Value) : At 1 intC (W.setCell ⟨g, 0, none⟩ u) B A' p := fun h0 => by
  obtain ⟨b, off, e, hb, hc⟩ := h h0
  have hne : b ≠ g := by
    rintro rfl
    have h1 := hc 0 p[0] (List.getElem?_eq_getElem h0) 0 (.int .i64 p[0]) rfl
    unfold Bx at hB
    rw [World.cell?, hB] at h1
    rcases Nat.eq_zero_or_pos off with h2 | h2
    · subst h2; simp at h1
    · obtain ⟨k, rfl⟩ := Nat.exists_eq_succ_of_ne_zero (Nat.ne_of_gt h2)
      simp at h1
  exact ⟨b, off, e, hb, fun i c hi j v hj => (cell_block (Below.heap_setCell W ⟨g, 0, none⟩ u b hne)).trans (hc i c hi j v hj)⟩
theorem num_set {W : World} {g : Nat} {t : TypeId} {A : Option Addr} {n c a : Nat} {v : Value} (hB : Bx W g t #[.slice A n c]) (h : NumAt W a v) (u : Value) : NumAt (W.setCell ⟨g, 0, none⟩ u) a v := by
  obtain ⟨A', cap, h1, h2, h3, h4⟩ := h.out
  exact ⟨A', cap, h1, (at_set hB h2 u).more (KeepsOthers.setCell W _ u).size, h3, h4⟩
structure TimesI (w : World) (v1 : Value) (x : Nat) (W : World) : Prop where
  hb : Below w.heap.size w W
  le : w.heap.size + 3 ≤ W.heap.size
  B1 : Bx W w.heap.size 107 #[v1]
  out : ∃ v, Bx W (w.heap.size + 1) 107 #[v] ∧ NumAt W x v
theorem times_any (a b : Nat) (v1 v2 : Value) (w : World) (h1 : NumAt w a v1) (h2 : NumAt w b v2) (la : (Ig.grp a).length ≤ 20000) (lb : (Ig.grp b).length ≤ 20000) :
    Calls Tryz.prog 113 #[v1, v2] w fun e w' => ∃ v, e = .returned v ∧ NumAt w' (a * b) v ∧ Below w.heap.size w w' := by
  obtain ⟨A1, c1, rfl, hA1, hn1, hm1⟩ := h1.out
  obtain ⟨A2, c2, rfl, hA2, hn2, hm2⟩ := h2.out
  refine (callsIn_wide (n := 3)).1 ?_
  refine callsIn_of_wp_marks Tryz.func113 rfl trivial ?_ rfl
  simp only [Tryz.ntmps113, List.size_toArray, List.length_cons, List.length_nil, Nat.reduceAdd, Nat.reduceSub, Array.replicate_succ, Array.replicate_zero, List.push_toArray, List.append_toArray, List.nil_append, List.cons_append]
  gi_wp2_with (refine ⟨trivial, ?_⟩; gi_at_call 128; refine (back_in Fence.wide 2 trivial rfl _ _ _ _).mono ?_; rintro e w' ⟨rfl, rfl⟩)
  have hb0 := bNew (bNew (bNewW w (.cells #[.slice A1 (Ig.grp a).length c1] 107)) (.cells #[.slice none 0 0] 107)) (.cells #[.slice A2 (Ig.grp b).length c2] 107)
  have B1 := ((Bx.mk w 107 #[.slice A1 (Ig.grp a).length c1]).new (.cells #[.slice none 0 0] 107)).new (.cells #[.slice A2 (Ig.grp b).length c2] 107)
  have B5 := (Bx.mk (w.alloc (.cells #[.slice A1 (Ig.grp a).length c1] 107)) 107 #[.slice none 0 0]).new (.cells #[.slice A2 (Ig.grp b).length c2] 107)
  have B7 := Bx.mk ((w.alloc (.cells #[.slice A1 (Ig.grp a).length c1] 107)).alloc (.cells #[.slice none 0 0] 107)) 107 #[.slice A2 (Ig.grp b).length c2]
  have hsz : (((w.alloc (.cells #[.slice A1 (Ig.grp a).length c1] 107)).alloc (.cells #[.slice none 0 0] 107)).alloc (.cells #[.slice A2 (Ig.grp b).length c2] 107)).heap.size = w.heap.size + 3 := by rw [alloc_size, alloc_size, alloc_size]
  rw [alloc_size] at B5
  rw [alloc_size, alloc_size] at B7
  generalize (((w.alloc (.cells #[.slice A1 (Ig.grp a).length c1] 107)).alloc (.cells #[.slice none 0 0] 107)).alloc (.cells #[.slice A2 (Ig.grp b).length c2] 107)) = W0 at *
  refine wpIn_rangeFunc_ownG rfl (by decide) (gf := 148) (lb := #[.pointer (some ⟨w.heap.size + 1 + 1, 0, none⟩)]) rfl trivial (enters_of Tryz.func148 (by kernel_rfl) rfl)
    (back_stops Fence.wide 2 trivial rfl (by decide) (w.heap.size + 1 + 1) w.heap.size A2 c2 (Ig.grp b) (by omega) W0 (by omega) (by omega) (B7.cell 0 rfl) (hA2.below hb0)) KpB.trans (kpB_b (by omega) (by omega)) (Below.refl _ _) (fun _ => rfl)
    (fun pre W => TimesI w (.slice A1 (Ig.grp a).length c1) (a * hor (Ig.grp b) pre) W) (fun _ _ _ => False)
    (fun pre W W' row hs hg hr => ⟨hs.hb.grown hg hs.hb.size (fun k e => by have := (hr k e).1; omega), Nat.le_trans hs.le hg.size, bx_kept hs.B1 hg (fun r e => (hr r e).2), by obtain ⟨v, h1, h2⟩ := hs.out; exact ⟨v, bx_kept h1 hg (fun r e => (hr r e).2), num_kept h2 hg (fun r e => (hr r e).2)⟩⟩)
    (fun _ _ _ _ _ hs _ _ => hs)
    ⟨hb0, by omega, B1, _, B5, ⟨none, 0, by simp [hor, Ig.grp_zero], by simp only [hor, List.foldl_nil, Nat.mul_zero, Ig.grp_zero]; exact At.nil, by simp [hor, Ig.grp_zero], Nat.zero_le _⟩⟩
    (fun x => { tmps := #[.slice A1 (Ig.grp a).length c1, .slice A2 (Ig.grp b).length c2, .pointer (some ⟨w.heap.size, 0, none⟩), undef, .slice none 0 0, .pointer (some ⟨w.heap.size + 1, 0, none⟩), undef, .int .i64 (Ig.grp b)[x.1], .slice A2 (Ig.grp b).length c2,
      .func (.func 148) #[] #[.pointer (some ⟨w.heap.size + 1 + 1, 0, none⟩)], .int .i64 (x.1 : Int), .int .i64 (Ig.grp b)[x.1], undef, undef, undef, undef, undef, undef, undef, undef, undef, undef, undef, undef], defers := [] }) ?assign ?body ?done ?stop
  case assign =>
    intro l x W K hK
    simp only [handed]
    gi_wp2
    exact hK
  case body =>
    rintro l pre x W ⟨hb, hle, B1', v, B5', hN⟩ hlt
    have hgx := Ig.gr_grp b (Ig.grp b)[x.1] (List.getElem_mem x.2)
    obtain ⟨d, hd⟩ := Int.eq_ofNat_of_zero_le hgx.1
    have hd9 : d < 10000 := by omega
    have hsn : Kp (a * hor (Ig.grp b) (pre ++ [x]) = a * hor (Ig.grp b) pre * 10000 + a * d) := ⟨by rw [hor_snoc, hd, Int.toNat_natCast, Nat.mul_add, Nat.mul_assoc]⟩
    have hlx := hor_lt (Ig.gr_grp b) pre
    have hpl : pre.length ≤ 20000 := by omega
    have hay0 : (Ig.grp (a * hor (Ig.grp b) pre)).length ≤ 20000 + pre.length := grp_mul_len la hlx
    have hay : (Ig.grp (a * hor (Ig.grp b) pre)).length ≤ 40000 := by omega
    have hay2 : (Ig.grp (a * hor (Ig.grp b) pre * 10000)).length ≤ 40000 + 1 := grp_shift_len hay
    have had : (Ig.grp (a * d)).length ≤ 20000 + 1 := grp_mul_len la (one_pow4 hd9)
    clear hay0
    have hNa : NumAt W a (.slice A1 (Ig.grp a).length c1) := ⟨A1, c1, rfl, (hA1.below hb).more hb.size, hn1, hm1⟩
    have hlt7 : w.heap.size + 1 + 1 < W.heap.size := by have := hle; omega
    generalize hor (Ig.grp b) pre = y at *
    simp only [hd]
    clear hlx hpl hgx hd
    by_cases hy : a * y = 0
    · obtain ⟨A5, c5, rfl, hA5, hn5, hm5⟩ := hN.out
      have hl0 : (Ig.grp (a * y)).length = 0 := by rw [hy, Ig.grp_zero]; rfl
      have hcell := B5'.cell 0 rfl
      rw [hl0] at hcell
      have hNv : NumAt W (a * y * 10000) (.slice A5 0 c5) := by
        rw [hl0] at hN
        rw [hy] at hN ⊢
        exact hN
      rw [hl0] at B5'
      gi_wp2
      have B16 := B1'; have B56 := B5'; have hb6 := hb
      have hkf6 := KeepsFrom.refl W0.heap.size W
      have hkp6 := KpB.refl w.heap.size (w.heap.size + 1 + 1) W
      obtain ⟨W6, hW6⟩ : ∃ W6, W6 = W := ⟨_, rfl⟩
      obtain ⟨v6, hv6⟩ : ∃ v6, v6 = Value.slice A5 0 c5 := ⟨_, rfl⟩
      rw [← hv6] at B56 hNv
      replace hkf6 : KeepsFrom W0.heap.size W W6 := by rw [hW6]; exact hkf6
      replace hkp6 : KpB w.heap.size (w.heap.size + 1 + 1) W W6 := by rw [hW6]; exact hkp6
      rw [← hW6] at B16 B56 hb6 hNa hNv
      clear hb
      have hlt6 : w.heap.size + 1 + 1 < W6.heap.size := by rw [hW6]; exact hlt7
      rw [← hW6]
      clear hv6
      clear hW6
      have cc := fun w1 (hb1 : Below W6.heap.size W6 w1) => (hb1.cell (p := ⟨w.heap.size + 1, 0, none⟩) B56.lt).trans (B56.cell 0 rfl)
      have cd := fun w1 (hb1 : Below W6.heap.size W6 w1) => (hb1.cell (p := ⟨w.heap.size, 0, none⟩) B16.lt).trans (B16.cell 0 rfl)
      refine wpIn_region_rgl [Eqv v6, Eqv (.slice A1 (Ig.grp a).length c1), Eqv (.int .i64 d), (fun v W => NumAt W (a * d) v), (fun v W => NumAt W (a * y * 10000 + a * d) v)] 5 24 (by kernel_rfl) (by kernel_rfl) rfl rfl (by kernel_rfl) ?_ ?_ ?_
      · simp only [AllS]
        exact ⟨stab_eqv _, stab_eqv _, stab_eqv _, fun v w w' h hb => h.call hb, fun v w w' h hb => h.call hb, trivial⟩
      · simp only [Users, List.take, List.length]
        refine ⟨?_, ?_, ?_, ?_, ?_, trivial⟩
        all_goals (intro vs w1 hb1 hd; have c3 := cc w1 hb1; have c4 := cd w1 hb1; have hN1 := hNa.call hb1; have hN6 := hNv.call hb1; clear cc cd; simp only [putD, Act.put, List.nil_append, List.cons_append, List.setIfInBounds_toArray, List.set_cons_succ, List.set_cons_zero, Nat.reduceAdd])
        · clear hd; go_wp2; exact ⟨Below.refl _ _, rfl⟩
        · clear hd; go_wp2; exact ⟨Below.refl _ _, rfl⟩
        · clear hd; go_wp2; exact ⟨Below.refl _ _, rfl⟩
        · have h1 : vs 1 = .slice A1 (Ig.grp a).length c1 := hd 1 rfl
          have h2 : vs 2 = .int .i64 d := hd 2 rfl
          clear hd
          rw [h1, h2]
          go_wp2_with fail
          have hC := by_any a d _ _ hN1 (by omega) (by omega)
          refine hC.mono ?_
          clear hC
          rintro _ w9 ⟨v9, rfl, hn9, hb9⟩
          go_wp2
          exact hn9
        · have h0 : vs 0 = v6 := hd 0 rfl
          have h3 : NumAt w1 (a * d) (vs 3) := hd 3 rfl
          clear hd
          rw [h0]
          go_wp2_with fail
          have hC := plus_any (a * y * 10000) (a * d) v6 (vs 3) w1 hN6 h3 (by omega) (by omega)
          generalize a * y * 10000 = p1 at *
          generalize a * d = p2 at *
          refine hC.mono ?_
          clear hC
          rintro _ w9 ⟨v9, rfl, hn9, hb9⟩
          go_wp2
          exact hn9
      · clear cc cd
        intro vs wa hba hR
        simp only [AllR, Eqv] at hR
        obtain ⟨-, -, -, -, e4, -⟩ := hR
        simp only [List.drop, List.take, List.map, putD, Act.put, List.setIfInBounds_toArray, List.set_cons_succ, List.set_cons_zero, Nat.reduceAdd]
        have B1a := B16.call hba
        have B5a := B56.call hba
        have hfr := B5a.frozen 0
        have hce := B5a.cell 0 rfl
        have hba2 := bCall hb6 hba
        have hkf := hkf6.trans (keeps_below hba W0.heap.size)
        have hkp : KpB w.heap.size (w.heap.size + 1 + 1) W wa := hkp6.trans ⟨hba.mono (by have := hb6.size; omega), hba.block _ hlt6⟩
        generalize vs 4 = z4 at *
        generalize vs 0 = z0, vs 1 = z1, vs 2 = z2, vs 3 = z3
        obtain ⟨A9, c9, rfl, hA9, hn9, hm9⟩ := e4.out
        obtain ⟨A8, c8, rfl, -, -, -⟩ := hNv.out
        clear hA9 hn9 hm9 hNv
        generalize (Ig.grp (a * y * 10000 + a * d)).length = n9 at *
        generalize (Ig.grp (a * y * 10000)).length = n8 at *
        go_wp2
        refine ⟨hkf.trans ((KeepsOthers.setCell _ _ _).from _), hkp.trans ⟨(Below.refl _ _).setCell (Nat.le_succ _) _, Below.heap_setCell _ _ _ _ (by simp)⟩, bSet hba2 (Nat.le_succ _) _, Nat.le_trans hle (Nat.le_trans hkp.1.size (KeepsOthers.setCell _ _ _).size), B1a.far (by simp) _, _, B5a.set 0 _, ?_⟩
        rw [hsn.out]
        exact num_set B5a e4 _
    · obtain ⟨A5, c5, rfl, hA5, hn5, hm5⟩ := hN.out
      have hl0 : ((Ig.grp (a * y)).length : Int) > 0 := by
        have : (Ig.grp (a * y)).length ≠ 0 := fun h => hy (Ig.grp_eq_nil.1 h)
        omega
      have hcell := B5'.cell 0 rfl
      have B51 := B5'.new (.cells #[.int .i64 0] 3)
      have hcell1 := B51.cell 0 rfl
      have hP : Src Tryz.prog 1 107 (.slice A5 (Ig.grp (a * y)).length c5) (Ig.grp (a * y)).length ((Ig.grp (a * y)).flatMap intC) (W.alloc (.cells #[.int .i64 0] 3)) := At.src (f := intC) (size := 1) (e := 3) (fun _ => rfl) (fun c u hu => by simp [intC] at hu; subst hu; rfl) Tryz.underlying107 (hA5.below (bNewW W _)) c5
      gi_wp2_with (gi_at_builtin; refine wpListIn_of _ _ _ (by kernel_rfl) ?_; refine wpList_append_nums rfl (.tmp 15) (.tmp 16) rfl W.heap.size 1 1 (Ig.grp (a * y)).length [.int .i64 0] ((Ig.grp (a * y)).flatMap intC) _ _ rfl rfl ⟨W.heap.size, _, rfl, Nat.le_refl _, Nat.le_refl _, Bx.mk _ _ _, rfl, rfl⟩ (by rw [alloc_size]; omega) hP (by decide) (by omega) ?_; intro v' w' cap' e1 e2 e3 e4; have hb7 := (bNewW W (.cells #[.int .i64 0] 3)).trans ((e2 rfl).mono (by rw [alloc_size]; omega)); have B57 := B5'.call hb7; have hce7 := B57.cell 0 rfl; have hfr7 := B57.frozen 0; have hsh : ∃ g7, v' = .slice (some ⟨g7, 0, none⟩) (1 + (Ig.grp (a * y)).length) cap' := (by obtain ⟨g7, _, h, _⟩ := e3; exact ⟨g7, h⟩); obtain ⟨g7, rfl⟩ := hsh)
      go_wp2
      gi_wp2
      have hfl : Kp ([Value.int .i64 0] ++ (Ig.grp (a * y)).flatMap intC = (Ig.grp (a * y * 10000)).flatMap intC) := ⟨by rw [Nat.mul_comm (a * y) 10000, ← Ig.grp_shift hy]; rfl⟩
      have hll : 1 + (Ig.grp (a * y)).length = (Ig.grp (a * y * 10000)).length := by rw [Nat.mul_comm (a * y) 10000, ← Ig.grp_shift hy, List.length_cons]; omega
      rw [hfl.out, hll] at e3
      rw [hll]
      have hNv0 : NumAt w' (a * y * 10000) (.slice (some ⟨g7, 0, none⟩) (Ig.grp (a * y * 10000)).length cap') := by
        obtain ⟨A, h1, h2, h3⟩ := RowC.at (f := intC) (size := 1) (fun _ => rfl) e3
        exact ⟨A, cap', h1, h2, h3, e4⟩
      generalize (Ig.grp (a * y * 10000)).length = n8 at hNv0 ⊢
      have B56 := B57.set 0 (.slice (some ⟨g7, 0, none⟩) n8 cap')
      have B16 := (B1'.call hb7).far (p := ⟨w.heap.size + 1, 0, none⟩) (by simp) (.slice (some ⟨g7, 0, none⟩) n8 cap')
      have hb6 := bSet (bCall hb hb7) (p := ⟨w.heap.size + 1, 0, none⟩) (Nat.le_succ _) (.slice (some ⟨g7, 0, none⟩) n8 cap')
      have hkf6 := (keeps_below hb7 W0.heap.size).trans ((KeepsOthers.setCell w' ⟨w.heap.size + 1, 0, none⟩ (.slice (some ⟨g7, 0, none⟩) n8 cap')).from W0.heap.size)
      have hkp6 : KpB w.heap.size (w.heap.size + 1 + 1) W (w'.setCell ⟨w.heap.size + 1, 0, none⟩ (.slice (some ⟨g7, 0, none⟩) n8 cap')) := KpB.trans ⟨hb7.mono (by omega), hb7.block _ hlt7⟩ ⟨(Below.refl _ _).setCell (Nat.le_succ _) _, Below.heap_setCell _ _ _ _ (by simp)⟩
      have hlt6 : w.heap.size + 1 + 1 < (w'.setCell ⟨w.heap.size + 1, 0, none⟩ (.slice (some ⟨g7, 0, none⟩) n8 cap')).heap.size := Nat.lt_of_lt_of_le hlt7 hkp6.1.size
      replace hNa := num_set B57 (hNa.call hb7) (.slice (some ⟨g7, 0, none⟩) n8 cap')
      have hNv := num_set B57 hNv0 (.slice (some ⟨g7, 0, none⟩) n8 cap')
      clear hNv0 B51 hcell1 hP e1 e2 e3 e4 hfl hll hce7 hfr7 B57 hb7 hcell hN hA5 hn5 hm5
      simp only [Array.setIfInBounds, List.size_toArray, List.length_cons, List.length_nil, Nat.zero_add, Nat.lt_add_one, dite_true, List.set_toArray, List.set_cons_zero] at B56
      generalize w'.setCell ⟨w.heap.size + 1, 0, none⟩ (.slice (some ⟨g7, 0, none⟩) n8 cap') = W6 at *
      obtain ⟨v6, hv6⟩ : ∃ v6, v6 = Value.slice (some ⟨g7, 0, none⟩) n8 cap' := ⟨_, rfl⟩
      rw [← hv6] at B56 hNv
      clear hv6
      have cc := fun w1 (hb1 : Below W6.heap.size W6 w1) => (hb1.cell (p := ⟨w.heap.size + 1, 0, none⟩) B56.lt).trans (B56.cell 0 rfl)
      have cd := fun w1 (hb1 : Below W6.heap.size W6 w1) => (hb1.cell (p := ⟨w.heap.size, 0, none⟩) B16.lt).trans (B16.cell 0 rfl)
      refine wpIn_region_rgl [Eqv v6, Eqv (.slice A1 (Ig.grp a).length c1), Eqv (.int .i64 d), (fun v W => NumAt W (a * d) v), (fun v W => NumAt W (a * y * 10000 + a * d) v)] 5 24 (by kernel_rfl) (by kernel_rfl) rfl rfl (by kernel_rfl) ?_ ?_ ?_
      · simp only [AllS]
        exact ⟨stab_eqv _, stab_eqv _, stab_eqv _, fun v w w' h hb => h.call hb, fun v w w' h hb => h.call hb, trivial⟩
      · simp only [Users, List.take, List.length]
        refine ⟨?_, ?_, ?_, ?_, ?_, trivial⟩
        all_goals (intro vs w1 hb1 hd; have c3 := cc w1 hb1; have c4 := cd w1 hb1; have hN1 := hNa.call hb1; have hN6 := hNv.call hb1; clear cc cd; simp only [putD, Act.put, List.nil_append, List.cons_append, List.setIfInBounds_toArray, List.set_cons_succ, List.set_cons_zero, Nat.reduceAdd])
        · clear hd; go_wp2; exact ⟨Below.refl _ _, rfl⟩
        · clear hd; go_wp2; exact ⟨Below.refl _ _, rfl⟩
        · clear hd; go_wp2; exact ⟨Below.refl _ _, rfl⟩
        · have h1 : vs 1 = .slice A1 (Ig.grp a).length c1 := hd 1 rfl
          have h2 : vs 2 = .int .i64 d := hd 2 rfl
          clear hd
          rw [h1, h2]
          go_wp2_with fail
          have hC := by_any a d _ _ hN1 (by omega) (by omega)
          refine hC.mono ?_
          clear hC
          rintro _ w9 ⟨v9, rfl, hn9, hb9⟩
          go_wp2
          exact hn9
        · have h0 : vs 0 = v6 := hd 0 rfl
          have h3 : NumAt w1 (a * d) (vs 3) := hd 3 rfl
          clear hd
          rw [h0]
          go_wp2_with fail
          have hC := plus_any (a * y * 10000) (a * d) v6 (vs 3) w1 hN6 h3 (by omega) (by omega)
          generalize a * y * 10000 = p1 at *
          generalize a * d = p2 at *
          refine hC.mono ?_
          clear hC
          rintro _ w9 ⟨v9, rfl, hn9, hb9⟩
          go_wp2
          exact hn9
      · clear cc cd
        intro vs wa hba hR
        simp only [AllR, Eqv] at hR
        obtain ⟨-, -, -, -, e4, -⟩ := hR
        simp only [List.drop, List.take, List.map, putD, Act.put, List.setIfInBounds_toArray, List.set_cons_succ, List.set_cons_zero, Nat.reduceAdd]
        have B1a := B16.call hba
        have B5a := B56.call hba
        have hfr := B5a.frozen 0
        have hce := B5a.cell 0 rfl
        have hba2 := bCall hb6 hba
        have hkf := hkf6.trans (keeps_below hba W0.heap.size)
        have hkp : KpB w.heap.size (w.heap.size + 1 + 1) W wa := hkp6.trans ⟨hba.mono (by have := hb6.size; omega), hba.block _ hlt6⟩
        generalize vs 4 = z4 at *
        generalize vs 0 = z0, vs 1 = z1, vs 2 = z2, vs 3 = z3
        obtain ⟨A9, c9, rfl, hA9, hn9, hm9⟩ := e4.out
        obtain ⟨A8, c8, rfl, -, -, -⟩ := hNv.out
        clear hA9 hn9 hm9 hNv
        generalize (Ig.grp (a * y * 10000 + a * d)).length = n9 at *
        generalize (Ig.grp (a * y * 10000)).length = n8 at *
        go_wp2
        refine ⟨hkf.trans ((KeepsOthers.setCell _ _ _).from _), hkp.trans ⟨(Below.refl _ _).setCell (Nat.le_succ _) _, Below.heap_setCell _ _ _ _ (by simp)⟩, bSet hba2 (Nat.le_succ _) _, Nat.le_trans hle (Nat.le_trans hkp.1.size (KeepsOthers.setCell _ _ _).size), B1a.far (by simp) _, _, B5a.set 0 _, ?_⟩
        rw [hsn.out]
        exact num_set B5a e4 _
  case done =>
    rintro D ys W hD rfl ⟨hb, hle, B1', v, B5', hN⟩ hK
    have c5 := B5'.cell 0 rfl
    rw [hor_all] at hN
    gi_wp2
    refine ⟨by simp, .inl ⟨_, _, rfl, run_takeDeferred hK, ?_⟩⟩
    have hg := grownBy_putObj' W D (.deferred none)
    have hr : ∀ r, some D = some r → ∃ o : Obj, W.heap[r]? = some o ∧ o.isCells = false := fun r e => by cases e; exact ⟨_, hK, rfl⟩
    exact ⟨_, results_tmp rfl _ _ _, v, rfl, num_kept hN hg hr, hb.trans (belowK_b (w := w) (Nat.le_refl _) W D _ _ (by omega) hK rfl rfl)⟩
  case stop =>
    rintro D c pre W _ _ h _
    exact h.elim
end Go.Proofs.YtklelhkcbdajpaaGreatDoor
namespace Go.Proofs.YtklelhkcbdajpaaGreatDoor
open Go.RowKit Go.Shelf
theorem byteI : ∃ i, Tryz.prog.info? 5 = some i ∧ i.zero = some (.int .u8 0) ∧ i.size = 1 ∧ i.bytes = 1 := by
  have h : (Tryz.prog.info? 5).map (fun i => (i.zero, i.size, i.bytes)) = some (some (.int .u8 0), 1, 1) := by kernel_rfl
  cases hi : Tryz.prog.info? 5 with
  | none => rw [hi] at h; cases h
  | some i =>
    rw [hi] at h
    simp only [Option.map_some, Option.some.injEq, Prod.mk.injEq] at h
    exact ⟨i, rfl, h.1, h.2.1, h.2.2⟩
theorem builderI : ∃ i, Tryz.prog.info? 136 = some i ∧ i.size = 2 := by
  have h : (Tryz.prog.info? 136).map (fun i => i.size) = some 2 := by kernel_rfl
  cases hi : Tryz.prog.info? 136 with
  | none => rw [hi] at h; cases h
  | some i =>
    rw [hi] at h
    exact ⟨i, rfl, by simpa using h⟩
theorem copyCheck_used (b : Nat) (w : World) (h0 : w.cell? ⟨b, 0, none⟩ = some (.pointer (some ⟨b, 0, none⟩))) :
    Calls Tryz.prog 153 #[.pointer (some ⟨b, 0, none⟩)] w fun e w' => e = .returned (.tuple #[]) ∧ w' = w := by
  obtain ⟨j, hj, _⟩ := builderI
  go_enter Tryz.func153, Tryz.ntmps153
  go_wp2
  rw [Lib.run_neq_ptr_same w _ Tryz.underlying133 hj]
  go_wp2
  go_end0
  exact ⟨rfl, rfl⟩
theorem copyCheck_fresh (b : Nat) (w : World) (h0 : w.cell? ⟨b, 0, none⟩ = some (.pointer none)) (hsh : w.shape? b = some (136, 2)) (hfz : w.frozen? ⟨b, 0, none⟩ = false) :
    Calls Tryz.prog 153 #[.pointer (some ⟨b, 0, none⟩)] w fun e w' => e = .returned (.tuple #[]) ∧ w' = w.setCell ⟨b, 0, none⟩ (.pointer (some ⟨b, 0, none⟩)) := by
  obtain ⟨j, hj, hjs⟩ := builderI
  go_enter Tryz.func153, Tryz.ntmps153
  go_wp2
  rw [Lib.run_to_unsafe w ⟨b, 0, none⟩ Tryz.underlying133 Tryz.underlying172 hj (by rw [hjs]; decide) hsh (Nat.zero_lt_succ 1)]
  simp only [Result.andThen]
  rw [Oper.upon_value]
  go_wp2
  rw [run_callFunc_extern Tryz.func170 (by kernel_rfl) (by kernel_rfl) (by kernel_rfl) (e := Extern.AbiNoEscape.same) (by kernel_rfl)]
  rw [Lib.run_noEscape]
  simp only [Result.andThen]
  rw [Oper.upon_value]
  go_wp2
  rw [Lib.run_from_unsafe w ⟨b, 0, none⟩ Tryz.underlying172 Tryz.underlying133 hj hsh (by kernel_rfl)]
  simp only [Result.andThen]
  rw [Oper.upon_value]
  go_wp2
  go_end0
  exact ⟨rfl, rfl⟩
theorem copyCheck_any (B b : Nat) (bs : List Value) (w : World) (h : Lib.IsBuilder 136 5 B b bs w) :
    Calls Tryz.prog 153 #[.pointer (some ⟨b, 0, none⟩)] w fun e w' => e = .returned (.tuple #[]) ∧ Lib.BuilderAt 136 5 B b (.pointer (some ⟨b, 0, none⟩)) bs w' ∧ Below B w w' ∧ Lib.OthersKept 5 (some b) w w' := by
  rcases h with h | h
  · refine (copyCheck_fresh b w h.cell0 h.shape h.frozen0).mono ?_
    rintro e w' ⟨rfl, rfl⟩
    exact ⟨rfl, h.used _, (Below.refl B w).setCell (p := ⟨b, 0, none⟩) h.1 _, (Lib.OthersKept.refl _ _ w).setCell ⟨b, 0, none⟩ rfl _⟩
  · refine (copyCheck_used b w h.cell0).mono ?_
    rintro e w' ⟨rfl, rfl⟩
    exact ⟨rfl, h, Below.refl B _, Lib.OthersKept.refl _ _ _⟩
theorem own_kind {B n : Nat} {v : Value} {bs : List Value} {w : World} (h : w.ownsRow B 5 1 v n bs) : ∀ g, v.ownBlock = some g → ∃ c fz, w.heap[g]? = some (.cells c 5 fz) := fun g hg => by
  rcases h.2 with ⟨rfl, _⟩ | ⟨g', cap, cur, rfl, _, h1, _⟩
  · cases hg
  · simp only [Value.ownBlock, Option.some.injEq] at hg
    subst hg
    exact ⟨_, _, h1⟩
theorem WriteString_any (B b : Nat) (bs : List Value) (s : List UInt8) (w : World) (h : Lib.IsBuilder 136 5 B b bs w) (hlen : bs.length + s.length ≤ 140737488355328) (hBw : B ≤ w.heap.size) :
    Calls Tryz.prog 130 #[.pointer (some ⟨b, 0, none⟩), .string ⟨s.toArray⟩] w fun e w' => e = .returned (.tuple #[.int .i64 s.length, .nilIface]) ∧ Lib.BuilderAt 136 5 B b (.pointer (some ⟨b, 0, none⟩)) (bs ++ Lib.byteCells s) w' ∧ Below B w w' ∧ Lib.OthersKept 5 (some b) w w' := by
  obtain ⟨i0, hi, hz0, hz1, hz2⟩ := byteI
  go_enter Tryz.func130, Tryz.ntmps130
  go_wp2_with (go_at_call 153; refine (copyCheck_any B b bs _ h).mono ?_)
  rintro e w1 ⟨rfl, h1, hb1, hk1⟩
  obtain ⟨hB, v, hbk, hown, hne⟩ := h1
  have c0 : w1.cell? ⟨b, 0, none⟩ = some (.pointer (some ⟨b, 0, none⟩)) := by rw [Lib.cell_of_heap hbk]; rfl
  have c1 : w1.cell? ⟨b, 1, none⟩ = some v := by rw [Lib.cell_of_heap hbk]; rfl
  have hsz : (⟨s.toArray⟩ : ByteArray).size = s.length := rfl
  go_wp2_with (at_builtin; refine Lib.wpList_append_own_string _ rfl _ _ 134 9 rfl B 5 i0 Tryz.underlying134 Tryz.underlying9 hi hz0 hz1 hz2 _ _ _ rfl hown ⟨s.toArray⟩ rfl ?c3 ?c4 ?c5 ?_)
  case c3 => unfold maxLen; rw [hsz]; omega
  case c4 => rw [hsz]; omega
  case c5 => have := hb1.size; omega
  intro v' w2 hown' hgrow _
  have hlt : b < w1.heap.size := by
    rcases Nat.lt_or_ge b w1.heap.size with h' | h'
    · exact h'
    · simp [Array.getElem?_eq_none h'] at hbk
  have hb2 : w2.heap[b]? = some (.cells #[.pointer (some ⟨b, 0, none⟩), v] 136 (0, 0)) := by
    rw [hgrow.block b hlt (fun e => hne e.symm)]
    exact hbk
  have d0 : w2.cell? ⟨b, 0, none⟩ = some (.pointer (some ⟨b, 0, none⟩)) := by rw [Lib.cell_of_heap hb2]; rfl
  have d1 : w2.cell? ⟨b, 1, none⟩ = some v := by rw [Lib.cell_of_heap hb2]; rfl
  have f1 : w2.frozen? ⟨b, 1, none⟩ = false := Lib.frozen_of_heap hb2 1
  obtain ⟨ao, n', cap, rfl⟩ : ∃ ao n' cap, v' = .slice ao n' cap := by
    rcases hown'.2 with ⟨hv, _⟩ | ⟨g, cap, cur, hv, _⟩
    · exact ⟨_, _, _, hv⟩
    · exact ⟨_, _, _, hv⟩
  go_wp2
  go_ret2
  have hc : Lib.strCells ⟨s.toArray⟩ = Lib.byteCells s := Lib.strCells_eq _
  rw [hc] at hown'
  refine ⟨rfl, ?_, ?_, (hk1.grown hgrow (own_kind hown)).setCell ⟨b, 1, none⟩ rfl _⟩
  · exact Lib.BuilderAt.put (T := 136) (e := 5) hB hb2 (bs' := bs ++ Lib.byteCells s) (by rw [List.length_append, Lib.byteCells_length]; exact hown') (by decide)
  · exact (hb1.grown hgrow (by have := hb1.size; omega) (fun k hk => (hown.lt k hk).1)).setCell (p := ⟨b, 1, none⟩) hB _
theorem BString_any (B b : Nat) (l : List UInt8) (w : World) (h : Lib.IsBuilder 136 5 B b (Lib.byteCells l) w) (h0 : l ≠ []) :
    Calls Tryz.prog 131 #[.pointer (some ⟨b, 0, none⟩)] w fun e w' => e = .returned (.string ⟨l.toArray⟩) ∧ Below B w w' ∧ Lib.OthersKept 5 (some b) w w' := by
  obtain ⟨p, hB, v, hbk, hown, hne⟩ : ∃ p, Lib.BuilderAt 136 5 B b p (Lib.byteCells l) w := by
    rcases h with h | h
    · exact ⟨_, h⟩
    · exact ⟨_, h⟩
  have hl0 : l.length ≠ 0 := by simpa using h0
  rw [Lib.byteCells_length] at hown
  obtain ⟨g, cap, cur, rfl, hbg, hg, hnc, hcm, hcs, htake⟩ : ∃ g cap cur, v = .slice (some ⟨g, 0, none⟩) l.length cap ∧ B ≤ g ∧ w.heap[g]? = some (.cells cur 5 (0, 0)) ∧ l.length ≤ cap ∧ cap ≤ maxLen ∧ cur.size = cap * 1 ∧ cur.toList.take (l.length * 1) = Lib.byteCells l := by
    rcases hown.2 with ⟨_, hz⟩ | ⟨g, cap, cur, hv, r⟩
    · exact absurd hz hl0
    · exact ⟨g, cap, cur, hv, r⟩
  have c1 : w.drew.cell? ⟨b, 1, none⟩ = some (.slice (some ⟨g, 0, none⟩) l.length cap) := by
    have : w.drew.heap[b]? = some (.cells #[p, .slice (some ⟨g, 0, none⟩) l.length cap] 136 (0, 0)) := hbk
    rw [Lib.cell_of_heap this]; rfl
  have hSD : (Builtin.unsafeSliceData_ #[134] 156 #[.slice (some ⟨g, 0, none⟩) l.length cap]).run Tryz.prog w.drew = .ok (.pointer (some ⟨g, 0, none⟩)) w.drew :=
    Lib.run_unsafeSliceData_row _ _ _ _ _ _ (by omega)
  have hUS : (Builtin.unsafeString_ #[156, 3] 9 #[.pointer (some ⟨g, 0, none⟩), .int .i64 l.length]).run Tryz.prog w.drew = .ok (.string ⟨l.toArray⟩) (w.drew.freeze ⟨g, 0, none⟩ l.length) := by
    refine Lib.run_unsafeString_row w.drew 156 3 9 5 Tryz.underlying156 (by kernel_rfl) g cur.size (by have hg' : w.drew.heap[g]? = some (.cells cur 5 (0, 0)) := hg; simp [World.shape?, hg']) l h0 (by omega) (by unfold maxLen at hcm; omega) ?_
    intro j x hx
    have := hown.cells (g := g) rfl j (.int .u8 x.toNat) (by simp [Lib.byteCells, hx])
    exact this
  have hbl := Lib.below_freeze (Below.drew (Below.refl B w)) (p := ⟨g, 0, none⟩) hbg l.length
  have hok := ((Lib.OthersKept.refl 5 (some b) w).drew).freeze ⟨g, 0, none⟩ l.length ⟨cur, (0, 0), hg⟩
  clear htake hcs hg hown hne hbk h
  go_enter Tryz.func131, Tryz.ntmps131
  go_wp2
  go_region
  all_goals (go_wp2; go_ret; exact ⟨rfl, hbl, hok⟩)
end Go.Proofs.YtklelhkcbdajpaaGreatDoor
namespace Ig
theorem gval_pos : ∀ {l : List Int}, Gr l → l ≠ [] → l.getLast? ≠ some 0 → 0 < gval l
  | [], _, h, _ => absurd rfl h
  | [g], h, _, hl => by
    have := h g (by simp)
    have : g ≠ 0 := fun e => hl (by simp [e])
    simp [gval]; omega
  | g :: a :: l, h, _, hl => by
    have h1 := h g (by simp)
    have h2 := gval_pos (l := a :: l) (fun x hx => h x (by simp [hx])) (by simp) (by rwa [List.getLast?_cons_cons] at hl)
    rw [gval]; omega
theorem from_pos (a i : Nat) (h : i < (grp a).length) : 0 < from_ (grp a) i := by
  refine gval_pos (fun g hg => gr_grp a g (List.mem_of_mem_drop hg)) (by simp; omega) ?_
  rw [List.getLast?_drop, if_neg (by omega)]
  exact grp_getLast a
theorem four_len (g : Nat) : (four g).length = 4 := rfl
theorem nd4 {g : Nat} (h : g < 10000) : Go.Lib.nDigits g ≤ 4 := (nd_le (by decide)).2 h
def resS (z : Int) : List UInt8 := if Go.Lib.nDigits z.natAbs ≤ 200 then Go.Lib.itoa z else []
def resE (z : Int) : Int := if Go.Lib.nDigits z.natAbs ≤ 200 then 0 else 30
theorem fits_iff (z : Int) : fits z ↔ Go.Lib.nDigits z.natAbs ≤ 200 := (nd_le (by decide)).symm
theorem resS_fits {z : Int} (h : fits z) : resS z = Go.Lib.itoa z := if_pos ((fits_iff z).1 h)
theorem resE_fits {z : Int} (h : fits z) : resE z = 0 := if_pos ((fits_iff z).1 h)
theorem resS_not {z : Int} (h : ¬ fits z) : resS z = [] := if_neg (fun k => h ((fits_iff z).2 k))
theorem resE_not {z : Int} (h : ¬ fits z) : resE z = 30 := if_neg (fun k => h ((fits_iff z).2 k))
end Ig
namespace Go.Proofs.YtklelhkcbdajpaaGreatDoor
def txt (l : List Int) (pre : List (Fin l.length)) : List UInt8 := pre.flatMap fun t => if t.1 + 1 < l.length then Ig.four l[t.1].toNat else Lib.decDigits l[t.1].toNat
theorem txt_snoc (l : List Int) (pre : List (Fin l.length)) (t : Fin l.length) : txt l (pre ++ [t]) = txt l pre ++ (if t.1 + 1 < l.length then Ig.four l[t.1].toNat else Lib.decDigits l[t.1].toNat) := by simp [txt]
theorem txt_len {l : List Int} (hl : Ig.Gr l) (pre : List (Fin l.length)) : (txt l pre).length ≤ 4 * pre.length := by
  unfold txt
  induction pre with
  | nil => simp
  | cons t pre ih =>
    rw [List.flatMap_cons, List.length_append, List.length_cons]
    have h := hl l[t.1] (List.getElem_mem t.2)
    have : (if t.1 + 1 < l.length then Ig.four l[t.1].toNat else Lib.decDigits l[t.1].toNat).length ≤ 4 := by
      split
      · exact Nat.le_of_eq (Ig.four_len _)
      · rw [Ig.dec_len]; exact Ig.nd4 (by omega)
    omega
theorem txt_take (a : Nat) : ∀ k, k + 1 ≤ (Ig.grp a).length → txt (Ig.grp a) ((allDown (Ig.grp a).length).take (k + 1)) = Lib.decDigits (Ig.from_ (Ig.grp a) ((Ig.grp a).length - (k + 1))).toNat
  | 0, hk => by
    have hs := down_succ (n := (Ig.grp a).length) (t := (Ig.grp a).length - 1) (by omega)
    rw [show (Ig.grp a).length - ((Ig.grp a).length - 1) = 0 + 1 by omega, show (Ig.grp a).length - ((Ig.grp a).length - 1 + 1) = 0 by omega] at hs
    rw [hs, txt_snoc, if_neg (by simp only; omega), Nat.zero_add, Ig.from_step (by omega), Ig.from_end (by omega)]
    simp [txt]
  | k + 1, hk => by
    have ih := txt_take a k (by omega)
    have hs := down_succ (n := (Ig.grp a).length) (t := (Ig.grp a).length - (k + 2)) (by omega)
    rw [show (Ig.grp a).length - ((Ig.grp a).length - (k + 2)) = k + 1 + 1 by omega, show (Ig.grp a).length - ((Ig.grp a).length - (k + 2) + 1) = k + 1 by omega] at hs
    have hp := Ig.from_pos a ((Ig.grp a).length - (k + 1)) (by omega)
    have hg := Ig.gr_grp a _ (List.getElem_mem (show (Ig.grp a).length - (k + 2) < (Ig.grp a).length by omega))
    rw [hs, txt_snoc, if_pos (by simp only; omega), ih, Ig.from_step (show (Ig.grp a).length - (k + 1 + 1) < (Ig.grp a).length by omega), show (Ig.grp a).length - (k + 1 + 1) + 1 = (Ig.grp a).length - (k + 1) by omega]
    generalize Ig.from_ (Ig.grp a) ((Ig.grp a).length - (k + 1)) = F at *
    generalize hgd : (Ig.grp a)[(Ig.grp a).length - (k + 2)] = g at *
    rw [Ig.dec_groups (n := (g + 10000 * F).toNat) (by omega)]
    have e1 : (g + 10000 * F).toNat / 10000 = F.toNat := by omega
    have e2 : (g + 10000 * F).toNat % 10000 = g.toNat := by omega
    rw [e1, e2]
theorem txt_all {a : Nat} (h : a ≠ 0) : txt (Ig.grp a) (allDown (Ig.grp a).length) = Lib.decDigits a := by
  have hl : (Ig.grp a).length ≠ 0 := fun e => h (Ig.grp_eq_nil.1 e)
  have := txt_take a ((Ig.grp a).length - 1) (by omega)
  rw [show (Ig.grp a).length - 1 + 1 = (Ig.grp a).length by omega, List.take_of_length_le (by rw [allDown_len]; omega), Nat.sub_self, Ig.from_zero, Ig.gval_grp, Int.toNat_natCast] at this
  exact this
end Go.Proofs.YtklelhkcbdajpaaGreatDoor
namespace Go.Proofs.YtklelhkcbdajpaaGreatDoor
open Go.RowKit Go.Shelf
attribute [local go_sem] Oper.semAt_some
theorem own_call {B n : Nat} {v : Value} {bs : List Value} {w w' : World} (h : w.ownsRow B 5 1 v n bs) (hb : Below w.heap.size w w') : w'.ownsRow B 5 1 v n bs := by
  refine ⟨h.1, ?_⟩
  rcases h.2 with h1 | ⟨g, cap, cur, h1, h2, h3, h4⟩
  · exact .inl h1
  · exact .inr ⟨g, cap, cur, h1, h2, (hb.block g (Array.getElem?_eq_some_iff.1 h3).1).trans h3, h4⟩
theorem bat_call {B b : Nat} {p : Value} {bs : List Value} {w w' : World} (h : Lib.BuilderAt 136 5 B b p bs w) (hb : Below w.heap.size w w') : Lib.BuilderAt 136 5 B b p bs w' := by
  have hlt := h.lt
  obtain ⟨h1, v, h2, h3, h4⟩ := h
  exact ⟨h1, v, (hb.block b hlt).trans h2, own_call h3 hb, h4⟩
theorem bld_call {B b : Nat} {bs : List Value} {w w' : World} (h : Lib.IsBuilder 136 5 B b bs w) (hb : Below w.heap.size w w') : Lib.IsBuilder 136 5 B b bs w' :=
  h.elim (fun h => .inl (bat_call h hb)) (fun h => .inr (bat_call h hb))
theorem own_kept {B n : Nat} {v : Value} {bs : List Value} {W W' : World} {row : Option Nat} (h : W.ownsRow B 5 1 v n bs) (hg : W.grownBy W' row) (hr : ∀ r, row = some r → ∃ o : Obj, W.heap[r]? = some o ∧ o.isCells = false) : W'.ownsRow B 5 1 v n bs := by
  refine ⟨h.1, ?_⟩
  rcases h.2 with h1 | ⟨g, cap, cur, h1, h2, h3, h4⟩
  · exact .inl h1
  · exact .inr ⟨g, cap, cur, h1, h2, bx_kept (show Bx W g 5 cur from h3) hg hr, h4⟩
theorem bat_kept {B b : Nat} {p : Value} {bs : List Value} {W W' : World} {row : Option Nat} (h : Lib.BuilderAt 136 5 B b p bs W) (hg : W.grownBy W' row) (hr : ∀ r, row = some r → ∃ o : Obj, W.heap[r]? = some o ∧ o.isCells = false) : Lib.BuilderAt 136 5 B b p bs W' := by
  obtain ⟨h1, v, h2, h3, h4⟩ := h
  exact ⟨h1, v, bx_kept (show Bx W b 136 #[p, v] from h2) hg hr, own_kept h3 hg hr, h4⟩
theorem bld_kept {B b : Nat} {bs : List Value} {W W' : World} {row : Option Nat} (h : Lib.IsBuilder 136 5 B b bs W) (hg : W.grownBy W' row) (hr : ∀ r, row = some r → ∃ o : Obj, W.heap[r]? = some o ∧ o.isCells = false) : Lib.IsBuilder 136 5 B b bs W' :=
  h.elim (fun h => .inl (bat_kept h hg hr)) (fun h => .inr (bat_kept h hg hr))
theorem others_from {b : Nat} {W W' : World} (h : Lib.OthersKept 5 (some b) W W') (hs : W.heap.size ≤ W'.heap.size) {B : Nat} (hB : b < B) : KeepsFrom B W W' := ⟨hs, fun k o hk ho hc => h k o ho (by simp; omega) (fun c fz e => by rw [e] at hc; cases hc)⟩
theorem others_bx {b g : Nat} {t : TypeId} {cs : Array Value} {W W' : World} (h : Lib.OthersKept 5 (some b) W W') (hB : Bx W g t cs) (hg : g ≠ b) (ht : t ≠ 5) : Bx W' g t cs := h g _ hB (by simp; omega) (fun c fz e => by simp only [Obj.cells.injEq] at e; exact ht e.2.1)
def d_len (d : Nat) : Nat := (Lib.decDigits d).length
theorem rep_zero (k : Nat) : Lib.repeatL [48] k = List.replicate k 48 := by
  induction k with
  | zero => rfl
  | succ k ih => rw [List.replicate_succ, ← ih]; simp [Lib.repeatL, List.replicate_succ]
structure TextI (w : World) (neg : Bool) (v : Value) (l : List Int) (pre : List (Fin l.length)) (W : World) : Prop where
  hb : Below w.heap.size w W
  le : w.heap.size + 3 ≤ W.heap.size
  B1 : Bx W w.heap.size 109 #[.bool neg, v]
  Bb : Lib.IsBuilder 136 5 (w.heap.size + 1) (w.heap.size + 1) (Lib.byteCells (txt l pre)) W
  B3 : Bx W (w.heap.size + 1 + 1) 107 #[v]
theorem TextI.kept {w W W' : World} {neg : Bool} {v : Value} {l : List Int} {pre : List (Fin l.length)} {row : Option Nat} (h : TextI w neg v l pre W) (hg : W.grownBy W' row) (hr : ∀ r, row = some r → w.heap.size ≤ r ∧ ∃ o : Obj, W.heap[r]? = some o ∧ o.isCells = false) : TextI w neg v l pre W' :=
  ⟨h.hb.grown hg h.hb.size (fun k e => (hr k e).1), Nat.le_trans h.le hg.size, bx_kept h.B1 hg (fun r e => (hr r e).2), bld_kept h.Bb hg (fun r e => (hr r e).2), bx_kept h.B3 hg (fun r e => (hr r e).2)⟩
theorem text_zero (neg : Bool) (A1 : Option Addr) (c1 : Nat) (w : World) :
    Calls Tryz.prog 105 #[.agg #[.bool neg, .slice A1 0 c1]] w fun e w' => e = .returned (.tuple #[.string ⟨#[48]⟩, .int .i64 0]) ∧ Below w.heap.size w w' := by
  have hb := bNewW w (.cells #[.bool neg, .slice A1 0 c1] 109)
  go_enter Tryz.func105, Tryz.ntmps105
  go_wp2
  go_ret2
  exact ⟨rfl, hb⟩
theorem text_pos (neg : Bool) (a : Nat) (A1 : Option Addr) (c1 : Nat) (w : World) (hA1 : At 1 intC w w.heap.size A1 (Ig.grp a)) (hn1 : (Ig.grp a).length ≤ c1) (h0 : a ≠ 0) (la : (Ig.grp a).length ≤ 50000) (hE : Env w) (r : List UInt8) (k : Int)
    (hr1 : Lib.nDigits a ≤ 200 → Kp (r = (if neg then 45 :: Lib.decDigits a else Lib.decDigits a) ∧ k = 0)) (hr2 : ¬ Lib.nDigits a ≤ 200 → Kp (r = [] ∧ k = 30)) :
    Calls Tryz.prog 105 #[.agg #[.bool neg, .slice A1 (Ig.grp a).length c1]] w fun e w' => e = .returned (.tuple #[.string ⟨r.toArray⟩, .int .i64 k]) ∧ Below w.heap.size w w' := by
  have hl0 : (Ig.grp a).length ≠ 0 := fun e => h0 (Ig.grp_eq_nil.1 e)
  have t0 : decide (((Ig.grp a).length : Int) = 0) = false := decide_eq_false (by omega)
  have t1 : (((Ig.grp a).length : Int) == 0) = false := beq_eq_false_iff_ne.2 (by omega)
  refine (callsIn_wide (n := 3)).1 ?_
  refine callsIn_of_wp_marks Tryz.func105 rfl trivial ?_ rfl
  simp only [Tryz.ntmps105, List.size_toArray, List.length_cons, List.length_nil, Nat.reduceAdd, Nat.reduceSub, Array.replicate_succ, Array.replicate_zero, List.push_toArray, List.append_toArray, List.nil_append, List.cons_append]
  gi_wp2_with (refine ⟨trivial, ?_⟩; gi_at_call 128; refine (back_in Fence.wide 2 trivial rfl _ _ _ _).mono ?_; rintro e w' ⟨rfl, rfl⟩)
  have hb0 := bNew (bNew (bNewW w (.cells #[.bool neg, .slice A1 (Ig.grp a).length c1] 109)) (.cells #[.pointer none, .slice none 0 0] 136)) (.cells #[.slice A1 (Ig.grp a).length c1] 107)
  have B1 := ((Bx.mk w 109 #[.bool neg, .slice A1 (Ig.grp a).length c1]).new (.cells #[.pointer none, .slice none 0 0] 136)).new (.cells #[.slice A1 (Ig.grp a).length c1] 107)
  have Bb := bld_call (Lib.fresh_isBuilder 136 5 (w.alloc (.cells #[.bool neg, .slice A1 (Ig.grp a).length c1] 109))) (bNewW _ (.cells #[.slice A1 (Ig.grp a).length c1] 107))
  have B7 := Bx.mk ((w.alloc (.cells #[.bool neg, .slice A1 (Ig.grp a).length c1] 109)).alloc (.cells #[.pointer none, .slice none 0 0] 136)) 107 #[.slice A1 (Ig.grp a).length c1]
  have hsz : (((w.alloc (.cells #[.bool neg, .slice A1 (Ig.grp a).length c1] 109)).alloc (.cells #[.pointer none, .slice none 0 0] 136)).alloc (.cells #[.slice A1 (Ig.grp a).length c1] 107)).heap.size = w.heap.size + 3 := by rw [alloc_size, alloc_size, alloc_size]
  rw [alloc_size] at Bb
  rw [alloc_size, alloc_size] at B7
  generalize (((w.alloc (.cells #[.bool neg, .slice A1 (Ig.grp a).length c1] 109)).alloc (.cells #[.pointer none, .slice none 0 0] 136)).alloc (.cells #[.slice A1 (Ig.grp a).length c1] 107)) = W0 at *
  refine wpIn_rangeFunc_ownG rfl (by decide) (gf := 148) (lb := #[.pointer (some ⟨w.heap.size + 1 + 1, 0, none⟩)]) rfl trivial (enters_of Tryz.func148 (by kernel_rfl) rfl)
    (back_stops Fence.wide 2 trivial rfl (by decide) (w.heap.size + 1 + 1) w.heap.size A1 c1 (Ig.grp a) (by omega) W0 (by omega) (by omega) (B7.cell 0 rfl) (hA1.below hb0)) KpB.trans (kpB_b (by omega) (by omega)) (Below.refl _ _) (fun _ => rfl)
    (fun pre W => TextI w neg (.slice A1 (Ig.grp a).length c1) (Ig.grp a) pre W) (fun _ _ _ => False)
    (fun pre W W' row hs hg hr => hs.kept hg (fun r e => ⟨by have := (hr r e).1; omega, (hr r e).2⟩))
    (fun _ _ _ _ _ hs _ _ => hs)
    ⟨hb0, by omega, B1, Bb, B7⟩
    (fun x => { tmps := #[.agg #[.bool neg, .slice A1 (Ig.grp a).length c1], .pointer (some ⟨w.heap.size, 0, none⟩), .string ⟨#[]⟩, .int .i64 0, .pointer (some ⟨w.heap.size + 1, 0, none⟩), .int .i64 (x.1 : Int), .int .i64 (Ig.grp a)[x.1], undef, undef, .pointer (some ⟨w.heap.size, 1, none⟩), .slice A1 (Ig.grp a).length c1, .int .i64 ((Ig.grp a).length : Int), .bool false, .pointer (some ⟨w.heap.size, 1, none⟩), .slice A1 (Ig.grp a).length c1,
      .func (.func 148) #[] #[.pointer (some ⟨w.heap.size + 1 + 1, 0, none⟩)], .int .i64 (x.1 : Int), .int .i64 (Ig.grp a)[x.1], undef, undef, undef, undef, undef, undef, undef, undef, undef, undef, undef, undef, undef, undef, undef, undef, undef, undef, undef, undef, undef, undef, undef, undef, undef], defers := [] }) ?assign ?body ?done ?stop
  case assign =>
    intro l x W K hK
    simp only [handed]
    gi_wp2
    exact hK
  case body =>
    rintro l pre x W ⟨hb, hle, B1, Bb, B3⟩ hlt
    have hgx := Ig.gr_grp a (Ig.grp a)[x.1] (List.getElem_mem x.2)
    obtain ⟨d, hd⟩ := Int.eq_ofNat_of_zero_le hgx.1
    have hd9 : d < 10000 := by omega
    have hsn := txt_snoc (Ig.grp a) pre x
    have htl := txt_len (Ig.gr_grp a) pre
    rw [hd, Int.toNat_natCast] at hsn
    have hit : Lib.itoa (d : Int) = Lib.decDigits d := by rw [Ig.itoa_nonneg (by omega), Int.natAbs_natCast]
    have hI := Itoa_any (d : Int) W (by omega) (by omega) (hE.below hb)
    rw [hit] at hI
    have hdl := Ig.dec_len d
    have hd4 := Ig.nd4 hd9
    simp only [hd]
    clear hgx hd hit
    have hc1 := fun w1 (hb1 : Below W.heap.size W w1) => (B1.call hb1).cell 1 rfl
    by_cases hx : x.1 + 1 < (Ig.grp a).length
    · have t2 : decide ((x.1 : Int) < ((Ig.grp a).length : Int) - 1) = true := by simp; omega
      have hR := fun w1 => Repeat_any [48] (4 - (d_len d : Int)) w1 (by unfold d_len; omega) (by unfold d_len; omega) (by decide)
      have hpad : Lib.repeatL [48] (4 - (d_len d : Int)).toNat ++ Lib.decDigits d = Ig.four d := by
        rw [← Ig.pad_four hd9, rep_zero]
        unfold d_len
        rw [hdl, show (4 - ((Lib.nDigits d : Nat) : Int)).toNat = 4 - Lib.nDigits d by omega]
      rw [if_pos hx, ← hpad] at hsn
      have hlr : (Lib.repeatL [48] (4 - (d_len d : Int)).toNat ++ Lib.decDigits d).length = 4 := by rw [hpad]; rfl
      have hs4 : (Lib.decDigits d).length ≤ 4 := by rw [hdl]; exact hd4
      clear hpad hdl hd4
      unfold d_len at hR hlr hsn
      generalize Lib.decDigits d = s at *
      gi_wp2_with fail
      refine ⟨trivial, ((callsIn_wide.2 hI).inRound _).mono ?_⟩
      rintro _ w1 ⟨rfl, hb1⟩
      have c1' := hc1 w1 hb1
      clear hc1 hI
      gi_wp2_with fail
      refine ⟨trivial, ((callsIn_wide.2 (hR _)).inRound _).mono ?_⟩
      rintro _ w2 ⟨rfl, hb2⟩
      have hb12 := bCall hb1 hb2
      have hW := WriteString_any (w.heap.size + 1) (w.heap.size + 1) _ (Lib.repeatL [48] (4 - (s.length : Int)).toNat ++ s) w2 (bld_call Bb hb12) (by rw [Lib.byteCells_length, hlr]; omega) (by have := hb12.size; omega)
      rw [← Lib.byteCells_append, ← hsn] at hW
      rw [List.length_append] at hlr
      clear hR hsn
      generalize Lib.repeatL [48] (4 - (s.length : Int)).toNat = s2 at *
      have hnl : ¬ 9223372036854775807 < s2.length + s.length := by omega
      clear hlr
      gi_wp2_with fail
      refine ⟨trivial, ((callsIn_wide.2 hW).inRound _).mono ?_⟩
      rintro _ w3 ⟨rfl, hb3, hb4, hk4⟩
      gi_wp2
      have hs3 := hb4.size
      have hB1 := (B1.call hb12).below hb4 (Nat.lt_succ_self _)
      have hB3 := others_bx hk4 (B3.call hb12) (by omega) (by decide)
      have hb5 := (bCall hb hb12).trans (hb4.mono (Nat.le_succ _))
      exact ⟨(keeps_below hb12 W0.heap.size).trans (others_from hk4 hs3 (by omega)), ⟨(hb12.mono (by omega)).trans (hb4.mono (Nat.le_succ _)), hB3.trans B3.symm⟩, hb5, Nat.le_trans hle (Nat.le_trans hb12.size hs3), hB1, .inr hb3, hB3⟩
    · have t2 : decide ((x.1 : Int) < ((Ig.grp a).length : Int) - 1) = false := by simp; omega
      rw [if_neg hx] at hsn
      have hs4 : (Lib.decDigits d).length ≤ 4 := by rw [hdl]; exact hd4
      clear hdl hd4
      generalize Lib.decDigits d = s at *
      gi_wp2_with fail
      refine ⟨trivial, ((callsIn_wide.2 hI).inRound _).mono ?_⟩
      rintro _ w2 ⟨rfl, hb12⟩
      have c1' := hc1 w2 hb12
      clear hc1 hI
      have hW := WriteString_any (w.heap.size + 1) (w.heap.size + 1) _ s w2 (bld_call Bb hb12) (by rw [Lib.byteCells_length]; omega) (by have := hb12.size; omega)
      rw [← Lib.byteCells_append, ← hsn] at hW
      gi_wp2_with fail
      refine ⟨trivial, ((callsIn_wide.2 hW).inRound _).mono ?_⟩
      rintro _ w3 ⟨rfl, hb3, hb4, hk4⟩
      gi_wp2
      have hs3 := hb4.size
      have hB1 := (B1.call hb12).below hb4 (Nat.lt_succ_self _)
      have hB3 := others_bx hk4 (B3.call hb12) (by omega) (by decide)
      have hb5 := (bCall hb hb12).trans (hb4.mono (Nat.le_succ _))
      exact ⟨(keeps_below hb12 W0.heap.size).trans (others_from hk4 hs3 (by omega)), ⟨(hb12.mono (by omega)).trans (hb4.mono (Nat.le_succ _)), hB3.trans B3.symm⟩, hb5, Nat.le_trans hle (Nat.le_trans hb12.size hs3), hB1, .inr hb3, hB3⟩
  case done =>
    rintro D ys W hD rfl ⟨hb, hle, B1, Bb, B3⟩ hK
    rw [txt_all h0] at Bb
    have hS := BString_any _ _ _ _ Bb (Ig.dec_ne a)
    have hdl := Ig.dec_len a
    have c0 := fun w1 (hb1 : Below (w.heap.size + 1) W w1) => (B1.below hb1 (Nat.lt_succ_self _)).cell 0 rfl
    have hKk : ∀ w1, Lib.OthersKept 5 (some (w.heap.size + 1)) W w1 → w1.heap[D]? = some (.deferred (some [])) := fun w1 h1 => h1 D _ hK (by simp; omega) (fun c fz e => by cases e)
    have hDw : w.heap.size ≤ D := by omega
    clear B1 Bb B3 hK hD
    by_cases hnd : Lib.nDigits a ≤ 200
    · have hfin := hr1 hnd
      have t3 : decide (((Lib.decDigits a).length : Int) > 200) = false := decide_eq_false (by rw [hdl]; omega)
      have hnl : ¬ 9223372036854775807 < (Lib.decDigits a).length := by rw [hdl]; omega
      have hnl2 : ¬ 9223372036854775807 < 1 + (Lib.decDigits a).length := by rw [hdl]; omega
      clear hdl
      generalize Lib.decDigits a = s at *
      gi_wp2_with fail
      refine ⟨trivial, (callsIn_wide.2 hS).mono ?_⟩
      rintro _ w1 ⟨rfl, hb1, hk1⟩
      have hK := hKk w1 hk1
      have c1' := c0 w1 hb1
      have hb2 := hb.trans (hb1.mono (Nat.le_succ _))
      clear hS hKk c0 hk1 hb1 hb
      have hg := grownBy_putObj' w1 D (.deferred none)
      have hbf : Below w.heap.size w (w1.putObj D (.deferred none)) := hb2.trans (belowK_b (w := w) (Nat.le_refl _) w1 D _ _ hDw hK rfl rfl)
      cases neg
      · gi_wp2
        refine ⟨by simp, .inl ⟨_, _, rfl, run_takeDeferred hK, ?_⟩⟩
        exact ⟨_, results_tmp2 rfl _ _ _, by rw [hfin.out.1, hfin.out.2]; rfl, hbf⟩
      · gi_wp2
        refine ⟨by simp, .inl ⟨_, _, rfl, run_takeDeferred hK, ?_⟩⟩
        exact ⟨_, results_tmp2 rfl _ _ _, by rw [hfin.out.1, hfin.out.2]; rfl, hbf⟩
    · have hfin := hr2 hnd
      have t3 : decide (((Lib.decDigits a).length : Int) > 200) = true := decide_eq_true (by rw [hdl]; omega)
      clear hdl
      generalize Lib.decDigits a = s at *
      gi_wp2_with fail
      refine ⟨trivial, (callsIn_wide.2 hS).mono ?_⟩
      rintro _ w1 ⟨rfl, hb1, hk1⟩
      have hK := hKk w1 hk1
      have hb2 := hb.trans (hb1.mono (Nat.le_succ _))
      clear hS hKk c0 hk1 hb1 hb
      have hbf : Below w.heap.size w (w1.putObj D (.deferred none)) := hb2.trans (belowK_b (w := w) (Nat.le_refl _) w1 D _ _ hDw hK rfl rfl)
      gi_wp2
      refine ⟨by simp, .inl ⟨_, _, rfl, run_takeDeferred hK, ?_⟩⟩
      exact ⟨_, results_tmp2 rfl _ _ _, by rw [hfin.out.1, hfin.out.2]; rfl, hbf⟩
  case stop =>
    rintro D c pre W _ _ h _
    exact h.elim
def sgn (neg : Bool) (a : Nat) : Int := if neg then -(a : Int) else a
theorem sgn_abs (neg : Bool) (a : Nat) : (sgn neg a).natAbs = a := by cases neg <;> simp [sgn]
theorem text_any (neg : Bool) (a : Nat) (v : Value) (w : World) (h : NumAt w a v) (la : (Ig.grp a).length ≤ 50000) (hE : Env w) :
    Calls Tryz.prog 105 #[.agg #[.bool neg, v]] w fun e w' => e = .returned (.tuple #[.string ⟨(Ig.resS (sgn neg a)).toArray⟩, .int .i64 (Ig.resE (sgn neg a))]) ∧ Below w.heap.size w w' := by
  obtain ⟨A1, c1, rfl, hA1, hn1, hm1⟩ := h.out
  by_cases h0 : a = 0
  · subst h0
    have e1 : Ig.resS (sgn neg 0) = [48] := by cases neg <;> decide +kernel
    have e2 : Ig.resE (sgn neg 0) = 0 := by cases neg <;> decide +kernel
    have hl : (Ig.grp 0).length = 0 := by rw [Ig.grp_zero]; rfl
    rw [e1, e2, hl]
    exact text_zero neg A1 c1 w
  · refine text_pos neg a A1 c1 w hA1 hn1 h0 la hE _ _ (fun h => ⟨?_, ?_⟩) (fun h => ⟨?_, ?_⟩)
    · rw [Ig.resS, sgn_abs, if_pos h]
      cases neg
      · rw [Ig.itoa_nonneg (by simp [sgn]), sgn_abs]; rfl
      · rw [Ig.itoa_neg (by simp [sgn]; omega), sgn_abs]; rfl
    · rw [Ig.resE, sgn_abs, if_pos h]
    · rw [Ig.resS, sgn_abs, if_neg h]
    · rw [Ig.resE, sgn_abs, if_neg h]
end Go.Proofs.YtklelhkcbdajpaaGreatDoor
namespace Go.Proofs.YtklelhkcbdajpaaGreatDoor
open Go.RowKit Go.Shelf
def cmpZ (a b : Int) : Int := if a < b then -1 else if a > b then 1 else 0
theorem isNaN_int (a : Int) (w : World) : Calls Tryz.prog 145 #[.int .i64 a] w fun e w' => e = .returned (.bool false) ∧ w = w' := by
  go_enter Tryz.func145, Tryz.ntmps145
  go_wp2
  go_ret
  exact ⟨by simp, rfl⟩
theorem cmp_any (a b : Int) (w : World) : Calls Tryz.prog 140 #[.int .i64 a, .int .i64 b] w fun e w' => e = .returned (.int .i64 (cmpZ a b)) ∧ w = w' := by
  rcases (show (a < b) ∨ (a = b) ∨ (b < a) by omega) with h | h | h
  · have t1 : decide (a < b) = true := by simp; omega
    have e : cmpZ a b = -1 := by unfold cmpZ; rw [if_pos h]
    go_enter Tryz.func140, Tryz.ntmps140
    go_wp2_with (go_at_call 145; refine (isNaN_int _ _).mono ?_; rintro e w' ⟨rfl, rfl⟩)
    go_ret
    exact ⟨by rw [e]; rfl, rfl⟩
  · subst h
    have e : cmpZ a a = 0 := by unfold cmpZ; rw [if_neg (by omega), if_neg (by omega)]
    go_enter Tryz.func140, Tryz.ntmps140
    go_wp2_with (go_at_call 145; refine (isNaN_int _ _).mono ?_; rintro e w' ⟨rfl, rfl⟩)
    go_ret
    exact ⟨by rw [e]; rfl, rfl⟩
  · have t1 : decide (a < b) = false := by simp; omega
    have t2 : decide (a > b) = true := by simp; omega
    have e : cmpZ a b = 1 := by unfold cmpZ; rw [if_neg (by omega), if_pos h]
    go_enter Tryz.func140, Tryz.ntmps140
    go_wp2_with (go_at_call 145; refine (isNaN_int _ _).mono ?_; rintro e w' ⟨rfl, rfl⟩)
    go_ret
    exact ⟨by rw [e]; rfl, rfl⟩
end Go.Proofs.YtklelhkcbdajpaaGreatDoor
namespace Go.Proofs.YtklelhkcbdajpaaGreatDoor
open Go.RowKit Go.Shelf
attribute [local go_sem] Oper.semAt_some
theorem results_cell {fn : Func} {t : Tmp} {g : Nat} {x : Int} (h : fn.results = #[.cell t 3]) (tmps : Array Value) (w : World) (ht : tmps.getD t undef = .pointer (some ⟨g, 0, none⟩)) (hB : Bx w g 3 #[.int .i64 x]) :
    (results fn tmps).run Tryz.prog w = .ok (.int .i64 x) w := by
  have h0 := hB.cell 0 rfl
  have ht' : tmps[t]?.getD undef = .pointer (some ⟨g, 0, none⟩) := by simpa using ht
  simp only [results, h]
  simp [go_sem, ht', h0, loadVar]
theorem cmpZ_len {a b : Nat} (h : (Ig.grp a).length ≠ (Ig.grp b).length) : cmpZ ((Ig.grp a).length : Int) ((Ig.grp b).length : Int) = Ig.cmpI a b := by
  rw [Ig.cmp_len h]
  unfold cmpZ
  split
  · rw [if_pos (by omega)]
  · rw [if_pos (by omega), if_neg (by omega)]
theorem cmpZ_at {a b : Nat} (hlen : (Ig.grp a).length = (Ig.grp b).length) (k : Nat) (hk : k < (Ig.grp a).length) (hd : ∀ t, k < t → t < (Ig.grp a).length → Ig.atG (Ig.grp a) t = Ig.atG (Ig.grp b) t) (hne : Ig.atG (Ig.grp a) k ≠ Ig.atG (Ig.grp b) k) : cmpZ (Ig.atG (Ig.grp a) k) (Ig.atG (Ig.grp b) k) = Ig.cmpI a b := by
  have h1 : (Ig.grp a).drop (k + 1) = (Ig.grp b).drop (k + 1) := by
    apply List.ext_getElem (by simp [hlen])
    intro i h1 h2
    simp only [List.length_drop] at h1 h2
    have := hd (k + 1 + i) (by omega) (by omega)
    rw [Ig.atG_lt (by omega), Ig.atG_lt (by omega)] at this
    simpa using this
  rw [Ig.cmp_at hlen k hk h1 hne]
  unfold cmpZ
  split
  · rfl
  · rw [if_pos (by omega)]
theorem cmpI_all {a b : Nat} (hlen : (Ig.grp a).length = (Ig.grp b).length) (h : ∀ t, t < (Ig.grp a).length → Ig.atG (Ig.grp a) t = Ig.atG (Ig.grp b) t) : Ig.cmpI a b = 0 := by
  refine Ig.cmp_same (List.ext_getElem hlen fun i h1 h2 => ?_)
  have := h i h1
  rwa [Ig.atG_lt h1, Ig.atG_lt h2] at this
theorem mem_take_down {n k : Nat} (hk : k ≤ n) : ∀ t : Fin n, t ∈ (allDown n).take k ↔ n - k ≤ t.1 := by
  induction k with
  | zero => intro t; simp
  | succ k ih =>
    intro t
    have hs := down_succ (n := n) (t := n - (k + 1)) (by omega)
    rw [show n - (n - (k + 1)) = k + 1 by omega, show n - (n - (k + 1) + 1) = k by omega] at hs
    rw [hs, List.mem_append, ih (by omega), List.mem_singleton, Fin.ext_iff]
    simp only
    omega
theorem compare_ne (a b : Nat) (v1 v2 : Value) (w : World) (h1 : NumAt w a v1) (h2 : NumAt w b v2) (la : (Ig.grp a).length ≤ 90000) (lb : (Ig.grp b).length ≤ 90000) (hne : (Ig.grp a).length ≠ (Ig.grp b).length) :
    Calls Tryz.prog 110 #[v1, v2] w fun e w' => e = .returned (.int .i64 (Ig.cmpI a b)) ∧ Below w.heap.size w w' := by
  obtain ⟨A1, c1, rfl, hA1, hn1, hm1⟩ := h1.out
  obtain ⟨A2, c2, rfl, hA2, hn2, hm2⟩ := h2.out
  have he := cmpZ_len hne
  have hb0 := bNew (bNewW w (.cells #[.slice A2 (Ig.grp b).length c2] 107)) (.cells #[.int .i64 0] 3)
  generalize (Ig.grp a).length = n1 at *
  generalize (Ig.grp b).length = n2 at *
  have t0 : decide ((n1 : Int) = (n2 : Int)) = false := by simp; omega
  have t1 : ((n1 : Int) == (n2 : Int)) = false := by simp; omega
  go_enter Tryz.func110, Tryz.ntmps110
  go_wp2_with (go_at_call 140; refine (cmp_any _ _ _).mono ?_; rintro e w' ⟨rfl, rfl⟩)
  have B4 : Bx ((w.alloc (.cells #[.slice A2 n2 c2] 107)).alloc (.cells #[.int .i64 (Ig.cmpI a b)] 3)) (w.heap.size + 1) 3 #[.int .i64 (Ig.cmpI a b)] := by
    have := Bx.mk (w.alloc (.cells #[.slice A2 n2 c2] 107)) 3 #[.int .i64 (Ig.cmpI a b)]
    rwa [alloc_size] at this
  refine bodyPost_ret (results_cell rfl _ _ rfl B4) rfl ⟨rfl, bNew (bNewW w _) _⟩
structure CompI (w : World) (a b : Nat) (v2 : Value) (pre : List (Fin (Ig.grp a).length)) (W : World) : Prop where
  hb : Below w.heap.size w W
  le : w.heap.size + 3 ≤ W.heap.size
  B3 : Bx W w.heap.size 107 #[v2]
  B4 : Bx W (w.heap.size + 1) 3 #[.int .i64 0]
  same : ∀ t ∈ pre, Ig.atG (Ig.grp a) t.1 = Ig.atG (Ig.grp b) t.1
structure CompX (w : World) (a b : Nat) (pre : List (Fin (Ig.grp a).length)) (W : World) : Prop where
  hb : Below w.heap.size w W
  le : w.heap.size + 3 ≤ W.heap.size
  out : ∃ m x, pre = m ++ [x] ∧ (∀ t ∈ m, Ig.atG (Ig.grp a) t.1 = Ig.atG (Ig.grp b) t.1) ∧ Ig.atG (Ig.grp a) x.1 ≠ Ig.atG (Ig.grp b) x.1 ∧ Bx W (w.heap.size + 1) 3 #[.int .i64 (cmpZ (Ig.atG (Ig.grp a) x.1) (Ig.atG (Ig.grp b) x.1))]
theorem CompI.kept {w W W' : World} {a b : Nat} {v2 : Value} {pre : List (Fin (Ig.grp a).length)} {row : Option Nat} (h : CompI w a b v2 pre W) (hg : W.grownBy W' row) (hr : ∀ r, row = some r → w.heap.size ≤ r ∧ ∃ o : Obj, W.heap[r]? = some o ∧ o.isCells = false) : CompI w a b v2 pre W' :=
  ⟨h.hb.grown hg h.hb.size (fun k e => (hr k e).1), Nat.le_trans h.le hg.size, bx_kept h.B3 hg (fun r e => (hr r e).2), bx_kept h.B4 hg (fun r e => (hr r e).2), h.same⟩
theorem CompX.kept {w W W' : World} {a b : Nat} {pre : List (Fin (Ig.grp a).length)} {row : Option Nat} (h : CompX w a b pre W) (hg : W.grownBy W' row) (hr : ∀ r, row = some r → w.heap.size ≤ r ∧ ∃ o : Obj, W.heap[r]? = some o ∧ o.isCells = false) : CompX w a b pre W' := by
  obtain ⟨m, x, h1, h2, h3, h4⟩ := h.out
  exact ⟨h.hb.grown hg h.hb.size (fun k e => (hr k e).1), Nat.le_trans h.le hg.size, m, x, h1, h2, h3, bx_kept h4 hg (fun r e => (hr r e).2)⟩
theorem CompX.answer {w W : World} {a b k : Nat} (hlen : (Ig.grp a).length = (Ig.grp b).length) (hk : k ≤ (Ig.grp a).length) (h : CompX w a b ((allDown (Ig.grp a).length).take k) W) : Bx W (w.heap.size + 1) 3 #[.int .i64 (Ig.cmpI a b)] := by
  obtain ⟨m, x, h1, h2, h3, h4⟩ := h.out
  obtain ⟨j, rfl⟩ : ∃ j, k = j + 1 := ⟨k - 1, by rcases k with _ | k; · simp at h1
                                                 · rfl⟩
  have hs := down_succ (n := (Ig.grp a).length) (t := (Ig.grp a).length - (j + 1)) (by omega)
  rw [show (Ig.grp a).length - ((Ig.grp a).length - (j + 1)) = j + 1 by omega, show (Ig.grp a).length - ((Ig.grp a).length - (j + 1) + 1) = j by omega] at hs
  rw [hs] at h1
  have h5 := List.append_inj_left' h1 rfl
  have h6 : x.1 = (Ig.grp a).length - (j + 1) := by
    have := List.append_inj_right' h1 rfl
    simp only [List.cons.injEq, and_true] at this
    rw [← this]
  rw [cmpZ_at hlen x.1 x.2 (fun t h7 h8 => h2 ⟨t, h8⟩ (by rw [← h5, mem_take_down (by omega)]; simp only; omega)) h3] at h4
  exact h4
theorem compare_eq (a b : Nat) (v1 v2 : Value) (w : World) (h1 : NumAt w a v1) (h2 : NumAt w b v2) (la : (Ig.grp a).length ≤ 90000) (hl : (Ig.grp a).length = (Ig.grp b).length) :
    Calls Tryz.prog 110 #[v1, v2] w fun e w' => e = .returned (.int .i64 (Ig.cmpI a b)) ∧ Below w.heap.size w w' := by
  obtain ⟨A1, c1, rfl, hA1, hn1, hm1⟩ := h1.out
  obtain ⟨A2, c2, rfl, hA2, hn2, hm2⟩ := h2.out
  have t0 : decide (((Ig.grp a).length : Int) = ((Ig.grp b).length : Int)) = true := by simp; omega
  have t1 : (((Ig.grp a).length : Int) == ((Ig.grp b).length : Int)) = true := by simp; omega
  have t2 : (((Ig.grp a).length : Int) != ((Ig.grp b).length : Int)) = false := by simp; omega
  have hlk : Kp ((Ig.grp a).length = (Ig.grp b).length) := ⟨hl⟩
  clear hl
  refine (callsIn_wide (n := 3)).1 ?_
  refine callsIn_of_wp_marks Tryz.func110 rfl trivial ?_ rfl
  simp only [Tryz.ntmps110, List.size_toArray, List.length_cons, List.length_nil, Nat.reduceAdd, Nat.reduceSub, Array.replicate_succ, Array.replicate_zero, List.push_toArray, List.append_toArray, List.nil_append, List.cons_append]
  gi_wp2_with (refine ⟨trivial, ?_⟩; gi_at_call 128; refine (back_in Fence.wide 2 trivial rfl _ _ _ _).mono ?_; rintro e w' ⟨rfl, rfl⟩)
  have hb0 := bNew (bNew (bNewW w (.cells #[.slice A2 (Ig.grp b).length c2] 107)) (.cells #[.int .i64 0] 3)) (.cells #[.slice A1 (Ig.grp a).length c1] 107)
  have B3 := ((Bx.mk w 107 #[.slice A2 (Ig.grp b).length c2]).new (.cells #[.int .i64 0] 3)).new (.cells #[.slice A1 (Ig.grp a).length c1] 107)
  have B4 := (Bx.mk (w.alloc (.cells #[.slice A2 (Ig.grp b).length c2] 107)) 3 #[.int .i64 0]).new (.cells #[.slice A1 (Ig.grp a).length c1] 107)
  have B7 := Bx.mk ((w.alloc (.cells #[.slice A2 (Ig.grp b).length c2] 107)).alloc (.cells #[.int .i64 0] 3)) 107 #[.slice A1 (Ig.grp a).length c1]
  have hsz : (((w.alloc (.cells #[.slice A2 (Ig.grp b).length c2] 107)).alloc (.cells #[.int .i64 0] 3)).alloc (.cells #[.slice A1 (Ig.grp a).length c1] 107)).heap.size = w.heap.size + 3 := by rw [alloc_size, alloc_size, alloc_size]
  rw [alloc_size] at B4
  rw [alloc_size, alloc_size] at B7
  generalize (((w.alloc (.cells #[.slice A2 (Ig.grp b).length c2] 107)).alloc (.cells #[.int .i64 0] 3)).alloc (.cells #[.slice A1 (Ig.grp a).length c1] 107)) = W0 at *
  refine wpIn_rangeFunc_ownG rfl (by decide) (gf := 148) (lb := #[.pointer (some ⟨w.heap.size + 1 + 1, 0, none⟩)]) rfl trivial (enters_of Tryz.func148 (by kernel_rfl) rfl)
    (back_stops Fence.wide 2 trivial rfl (by decide) (w.heap.size + 1 + 1) w.heap.size A1 c1 (Ig.grp a) (by omega) W0 (by omega) (by omega) (B7.cell 0 rfl) (hA1.below hb0)) KpB.trans (kpB_b (by omega) (by omega)) (Below.refl _ _) (fun _ => rfl)
    (fun pre W => CompI w a b (.slice A2 (Ig.grp b).length c2) pre W) (fun c pre W => c = .ret ∧ CompX w a b pre W)
    (fun pre W W' row hs hg hr => hs.kept hg (fun r e => ⟨by have := (hr r e).1; omega, (hr r e).2⟩))
    (fun c pre W W' row hs hg hr => ⟨hs.1, hs.2.kept hg (fun r e => ⟨by have := (hr r e).1; omega, (hr r e).2⟩)⟩)
    ⟨hb0, by omega, B3, B4, fun t ht => by cases ht⟩
    (fun x => { tmps := #[.slice A1 (Ig.grp a).length c1, .slice A2 (Ig.grp b).length c2, undef, .pointer (some ⟨w.heap.size, 0, none⟩), .pointer (some ⟨w.heap.size + 1, 0, none⟩), .int .i64 (x.1 : Int), .int .i64 (Ig.grp a)[x.1], .slice A1 (Ig.grp a).length c1, .int .i64 ((Ig.grp a).length : Int), .slice A2 (Ig.grp b).length c2, .int .i64 ((Ig.grp b).length : Int), .bool false,
      undef, undef, undef, undef, undef, .slice A1 (Ig.grp a).length c1, .func (.func 148) #[] #[.pointer (some ⟨w.heap.size + 1 + 1, 0, none⟩)], .int .i64 (x.1 : Int), .int .i64 (Ig.grp a)[x.1], undef, undef, undef, undef, undef, undef, undef, undef, undef, undef, undef, undef], defers := [] }) ?assign ?body ?done ?stop
  case assign =>
    intro l x W K hK
    simp only [handed]
    gi_wp2
    exact hK
  case body =>
    rintro l pre x W ⟨hb, hle, B3', B4', hsame⟩ hlt
    have hxb : x.1 < (Ig.grp b).length := by have := x.2; have := hlk.out; omega
    have hA2' := hA2.below hb
    obtain ⟨b2, off, rfl, hbB, hcell⟩ := hA2' (by omega)
    have c0 : W.cell? ⟨b2, off + x.1, none⟩ = some (.int .i64 (Ig.grp b)[x.1]) := by
      have := hcell x.1 _ (List.getElem?_eq_getElem hxb) 0 _ rfl
      simpa using this
    have e1 : Ig.atG (Ig.grp a) x.1 = (Ig.grp a)[x.1] := Ig.atG_lt x.2
    have e2 : Ig.atG (Ig.grp b) x.1 = (Ig.grp b)[x.1] := Ig.atG_lt hxb
    have c3 := B3'.cell 0 rfl
    have c4 := B4'.cell 0 rfl
    have f4 := B4'.frozen 0
    have hxk : Kp (x.1 < (Ig.grp b).length) := ⟨hxb⟩
    by_cases heq : (Ig.grp a)[x.1] = (Ig.grp b)[x.1]
    · have t3 : decide ((Ig.grp a)[x.1] = (Ig.grp b)[x.1]) = true := by simp [heq]
      have hfin : CompI w a b (.slice (some ⟨b2, off, none⟩) (Ig.grp b).length c2) (pre ++ [x]) W := ⟨hb, hle, B3', B4', fun t ht => by
        rcases List.mem_append.1 ht with h | h
        · exact hsame t h
        · rw [List.mem_singleton.1 h, e1, e2, heq]⟩
      gi_wp2
      exact ⟨KeepsFrom.refl _ _, KpB.refl _ _ _, hfin⟩
    · have t3 : decide ((Ig.grp a)[x.1] = (Ig.grp b)[x.1]) = false := by simp [heq]
      gi_wp2_with (refine ⟨by first | trivial | (intro h; cases h), ?_⟩; gi_at_call 140; refine ((callsIn_wide.2 (cmp_any _ _ _)).inRound _).mono ?_; rintro e w' ⟨rfl, rfl⟩)
      exact ⟨(KeepsOthers.setCell _ _ _).from _, rfl, bSet hb (Nat.le_succ _) _, Nat.le_trans hle (KeepsOthers.setCell _ _ _).size, pre, x, rfl, hsame, by rw [e1, e2]; exact heq, by rw [e1, e2]; exact B4'.set 0 _⟩
  case done =>
    rintro D ys W hD rfl ⟨hb, hle, B3', B4', hsame⟩ hK
    have hz : Ig.cmpI a b = 0 := cmpI_all hlk.out (fun t ht => hsame ⟨t, ht⟩ (by simp [allDown]))
    have c4 := B4'.cell 0 rfl
    have f4 := B4'.frozen 0
    gi_wp2
    have hK2 := (Below.heap_setCell W ⟨w.heap.size + 1, 0, none⟩ (.int .i64 0) D (by show D ≠ w.heap.size + 1; omega)).trans hK
    have B42 := B4'.set 0 (.int .i64 0)
    have hb2 := bSet hb (p := ⟨w.heap.size + 1, 0, none⟩) (Nat.le_succ _) (.int .i64 0)
    generalize W.setCell ⟨w.heap.size + 1, 0, none⟩ (.int .i64 0) = W2 at *
    refine ⟨by simp, .inl ⟨_, _, rfl, run_takeDeferred hK2, ?_⟩⟩
    have hg := grownBy_putObj' W2 D (.deferred none)
    have hr : ∀ r, some D = some r → ∃ o : Obj, W2.heap[r]? = some o ∧ o.isCells = false := fun r e => by cases e; exact ⟨_, hK2, rfl⟩
    rw [hz]
    exact ⟨_, results_cell rfl _ _ rfl (bx_kept B42 hg hr), rfl, hb2.trans (belowK_b (w := w) (Nat.le_refl _) W2 D _ _ (by omega) hK2 rfl rfl)⟩
  case stop =>
    rintro D c pre W hD ⟨k, hk, rfl⟩ ⟨rfl, hX⟩ hK
    have hB := hX.answer hlk.out hk
    gi_wp2
    refine ⟨by simp, .inl ⟨_, _, rfl, run_takeDeferred hK, ?_⟩⟩
    have hg := grownBy_putObj' W D (.deferred none)
    have hr : ∀ r, some D = some r → ∃ o : Obj, W.heap[r]? = some o ∧ o.isCells = false := fun r e => by cases e; exact ⟨_, hK, rfl⟩
    exact ⟨_, results_cell rfl _ _ rfl (bx_kept hB hg hr), rfl, hX.hb.trans (belowK_b (w := w) (Nat.le_refl _) W D _ _ (by omega) hK rfl rfl)⟩
theorem compare_any (a b : Nat) (v1 v2 : Value) (w : World) (h1 : NumAt w a v1) (h2 : NumAt w b v2) (la : (Ig.grp a).length ≤ 90000) (lb : (Ig.grp b).length ≤ 90000) :
    Calls Tryz.prog 110 #[v1, v2] w fun e w' => e = .returned (.int .i64 (Ig.cmpI a b)) ∧ Below w.heap.size w w' := by
  by_cases hl : (Ig.grp a).length = (Ig.grp b).length
  · exact compare_eq a b v1 v2 w h1 h2 la hl
  · exact compare_ne a b v1 v2 w h1 h2 la lb hl
end Go.Proofs.YtklelhkcbdajpaaGreatDoor
