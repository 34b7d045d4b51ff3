/- Root, FromInt of package integer. -/
import Derived.Test.YtdjnkaeggnkgeaaGreatDoorIGcd
namespace Ig
theorem root_start {x k : Nat} (h : (grp x).length ≤ 2 * k) : x < (10000 ^ k + 1) * (10000 ^ k + 1) := by
  have h1 := Nat.lt_of_lt_of_le (grp_lt x) (Nat.pow_le_pow_right (show 0 < 10000 by decide) h)
  rw [Nat.mul_comm 2 k, Nat.pow_mul, Nat.pow_two] at h1
  exact Nat.lt_of_lt_of_le h1 (Nat.mul_le_mul (Nat.le_succ _) (Nat.le_succ _))
theorem root_next {x r : Nat} (hr : 0 < r) : x < ((r + x / r) / 2 + 1) * ((r + x / r) / 2 + 1) := by
  rcases Nat.lt_or_ge x (((r + x / r) / 2 + 1) * ((r + x / r) / 2 + 1)) with h | h
  · exact h
  · have := newton_above hr h
    omega
theorem root_pos {x r : Nat} (hx : 0 < x) (hr : 0 < r) : 0 < (r + x / r) / 2 := by
  rcases Nat.lt_or_ge 1 r with h | h
  · have h2 : 2 ≤ r + x / r := Nat.le_trans h (Nat.le_add_right _ _)
    generalize r + x / r = y at *
    omega
  · obtain rfl : r = 1 := by omega
    rw [Nat.div_one]; omega
theorem grp_pow (k : Nat) : grp (10000 ^ k) = List.replicate k 0 ++ [1] := by
  have hG : Gr (List.replicate k (0 : Int) ++ [1]) := fun g hg => by
    rcases List.mem_append.1 hg with h | h
    · rw [(List.mem_replicate.1 h).2]; omega
    · obtain rfl : g = 1 := by simpa using h
      omega
  have h := grp_of hG (by simp)
  have hv : ∀ k, gval (List.replicate k (0 : Int)) = 0 := by
    intro k
    induction k with
    | zero => rfl
    | succ k ih => rw [List.replicate_succ, gval, ih]; rfl
  rw [h, gval_append, hv, List.length_replicate]
  have e : (0 : Int) + 10000 ^ k * gval [1] = ((10000 ^ k : Nat) : Int) := by simp [gval]
  rw [e, Int.toNat_natCast]
end Ig
namespace Go.Proofs.YtdjnkaeggnkgeaaGreatDoor
set_option linter.unusedVariables false
set_option linter.unusedSimpArgs false
open Go.RowKit Go.Shelf
theorem FromInt_any (n : Int) (w : World) (h0 : -9223372036854775808 ≤ n) (h1 : n ≤ 9223372036854775807) (hE : Env w) :
    Calls Tryz.prog 35 #[.int .i64 n] w fun e w' => e = .returned (.string ⟨(Lib.itoa n).toArray⟩) ∧ Below w.heap.size w w' := by
  have hC := Itoa_any n w h0 h1 hE
  go_enter Tryz.func35, Tryz.ntmps35
  go_wp2_with fail
  refine hC.mono ?_
  rintro _ w1 ⟨rfl, hb⟩
  clear hC
  go_wp2
  go_ret
  exact ⟨rfl, hb⟩
theorem flat_ints (l : List Int) : l.flatMap intC = l.map (Value.int .i64) := by
  induction l with
  | nil => rfl
  | cons c l ih => rw [List.flatMap_cons, ih]; rfl
theorem num_digit (w : World) (d : Nat) (h0 : 0 < d) (h1 : d < 10000) : NumAt (w.alloc (.cells #[.int .i64 (d : Int)] 3)) d (.slice (some ⟨w.heap.size, 0, none⟩) 1 1) := by
  have hg : Ig.grp d = [(d : Int)] := by rw [Ig.grp_pos (by omega), show d / 10000 = 0 by omega, Ig.grp_zero, Nat.mod_eq_of_lt h1]
  have hB := Bx.mk w 3 #[.int .i64 (d : Int)]
  refine ⟨some ⟨w.heap.size, 0, none⟩, 1, by rw [hg]; rfl, ?_, by rw [hg]; exact Nat.le_refl 1, by decide⟩
  rw [hg]
  intro _
  refine ⟨w.heap.size, 0, rfl, hB.lt, fun i c hi j u hj => ?_⟩
  obtain rfl : i = 0 := by rcases i with _ | i; · rfl
                           · simp at hi
  obtain rfl : c = (d : Int) := by simpa using hi.symm
  obtain rfl : j = 0 := by rcases j with _ | j; · rfl
                           · simp [intC] at hj
  obtain rfl : u = .int .i64 (d : Int) := by simpa [intC] using hj.symm
  exact hB.cell 0 rfl
theorem itoa_zero : Lib.itoa 0 = [48] := by decide +kernel
set_option maxRecDepth 100000 in
set_option maxHeartbeats 4000000 in
theorem Root_not (a : List UInt8) (w : World) (ha : a.length ≤ 1000000) (h : Ig.validS a = false) :
    Calls Tryz.prog 21 #[.string ⟨a.toArray⟩] w fun e w' => e = .returned (.tuple #[.string ⟨#[]⟩, .int .i64 30]) ∧ Below w.heap.size w w' := by
  have hB := both_not a [48] w ha (by decide) (.inl h)
  go_enter Tryz.func21, Tryz.ntmps21
  go_wp2_with fail
  refine hB.mono ?_
  rintro _ w1 ⟨rfl, hb1⟩
  have hb2 := bNew (bNewW w1 (.cells #[.bool false, .slice none 0 0] 50)) (.cells #[.bool false, .slice none 0 0] 50)
  have hb3 := bCall hb1 hb2
  clear hB
  go_wp2
  go_ret2
  exact ⟨rfl, hb3⟩
set_option maxRecDepth 100000 in
set_option maxHeartbeats 4000000 in
theorem Root_neg (x : Int) (w : World) (hx : Ig.fits x) (h : x < 0) :
    Calls Tryz.prog 21 #[.string ⟨(Lib.itoa x).toArray⟩] w fun e w' => e = .returned (.tuple #[.string ⟨#[]⟩, .int .i64 30]) ∧ Below w.heap.size w w' := by
  have hB := both_any x 0 w hx (by unfold Ig.fits; decide)
  rw [decide_eq_true h, itoa_zero, show decide ((0 : Int) < 0) = false from rfl] at hB
  generalize x.natAbs = ax at *
  generalize Lib.itoa x = sx at *
  clear h hx
  go_enter Tryz.func21, Tryz.ntmps21
  go_wp2_with fail
  refine hB.mono ?_
  rintro _ w1 ⟨u, v, rfl, hu, hv, hb1⟩
  obtain ⟨A1, c1, rfl, -⟩ := id hu.out
  obtain ⟨A2, c2, rfl, -⟩ := id hv.out
  have hb2 := bNew (bNewW w1 (.cells #[.bool true, .slice A1 (Ig.grp ax).length c1] 50)) (.cells #[.bool false, .slice A2 (Ig.grp (0 : Int).natAbs).length c2] 50)
  have hb3 := bCall hb1 hb2
  clear hB hu hv
  generalize (Ig.grp (0 : Int).natAbs).length = l0 at *
  go_wp2
  go_ret2
  exact ⟨rfl, hb3⟩
set_option maxRecDepth 100000 in
set_option maxHeartbeats 8000000 in
theorem Root_any (x : Int) (w : World) (hx : Ig.fits x) (h0 : 0 ≤ x) (hE : Env w) :
    Calls Tryz.prog 21 #[.string ⟨(Lib.itoa x).toArray⟩] w fun e w' => ∃ s : Nat, e = .returned (.tuple #[.string ⟨(Lib.itoa (s : Int)).toArray⟩, .int .i64 0]) ∧ s * s ≤ x.natAbs ∧ x.natAbs < (s + 1) * (s + 1) ∧ Below w.heap.size w w' := by
  have hB := both_any x 0 w hx (by unfold Ig.fits; decide)
  have lx := Ig.fits_len hx
  rw [decide_eq_false (by omega), itoa_zero, show decide ((0 : Int) < 0) = false from rfl, show (0 : Int).natAbs = 0 from rfl] at hB
  have hfit : ∀ s : Nat, s * s ≤ x.natAbs → Kp (Ig.resS (sgn false s) = Lib.itoa (s : Int) ∧ Ig.resE (sgn false s) = 0) := fun s hs => ⟨by
    have hf : Ig.fits (s : Int) := by
      unfold Ig.fits at *
      rw [Int.natAbs_natCast]
      exact Nat.lt_of_le_of_lt (Nat.le_trans (Nat.le_mul_self s) hs) hx
    exact ⟨Ig.resS_fits hf, Ig.resE_fits hf⟩⟩
  generalize x.natAbs = ax at *
  generalize Lib.itoa x = sx at *
  clear hx h0
  go_enter Tryz.func21, Tryz.ntmps21
  go_wp2_with fail
  refine hB.mono ?_
  rintro _ w1 ⟨u, v, rfl, hu, hv, hb1⟩
  obtain ⟨A1, c1, rfl, -⟩ := id hu.out
  obtain ⟨A2, c2, rfl, -⟩ := id hv.out
  clear hB hv
  have hl00 : (Ig.grp 0).length = 0 := by rw [Ig.grp_zero]; rfl
  simp only [hl00]
  have hb2 := bNew (bNewW w1 (.cells #[.bool false, .slice A1 (Ig.grp ax).length c1] 50)) (.cells #[.bool false, .slice A2 0 c2] 50)
  have B1 := (Bx.mk w1 50 #[.bool false, .slice A1 (Ig.grp ax).length c1]).new (.cells #[.bool false, .slice A2 0 c2] 50)
  replace hu := hu.call hb2
  replace hb1 := bCall hb1 hb2
  have hst := Kp.mk (Ig.root_start (x := ax) (k := ((Ig.grp ax).length + 1) / 2) (by omega))
  have hkl : ((Ig.grp ax).length + 1) / 2 ≤ 25 := by omega
  have hk : (((Ig.grp ax).length : Int) + 1) / 2 = ((((Ig.grp ax).length + 1) / 2 : Nat) : Int) := by omega
  have hmk := fun w0 => make_nums (((Ig.grp ax).length + 1) / 2) (by omega) w0
  rw [← hk] at hmk
  clear hk
  generalize ((Ig.grp ax).length + 1) / 2 = k at *
  have hA0 := alloc_size w1 (.cells #[.bool false, .slice A1 (Ig.grp ax).length c1] 50)
  have hA1 := alloc_size (w1.alloc (.cells #[.bool false, .slice A1 (Ig.grp ax).length c1] 50)) (.cells #[.bool false, .slice A2 0 c2] 50)
  rw [hA0] at hA1
  have hR0 := Bx.mk ((w1.alloc (.cells #[.bool false, .slice A1 (Ig.grp ax).length c1] 50)).alloc (.cells #[.bool false, .slice A2 0 c2] 50)) 3 (madeCells #[.int .i64 0] k)
  have hA2 := alloc_size ((w1.alloc (.cells #[.bool false, .slice A1 (Ig.grp ax).length c1] 50)).alloc (.cells #[.bool false, .slice A2 0 c2] 50)) (.cells (madeCells #[.int .i64 0] k) 3)
  rw [hA1] at hR0 hA2
  have hsrc := src_one (((w1.alloc (.cells #[.bool false, .slice A1 (Ig.grp ax).length c1] 50)).alloc (.cells #[.bool false, .slice A2 0 c2] 50)).alloc (.cells (madeCells #[.int .i64 0] k) 3)) 1
  have hbb := bNew (bNewW ((w1.alloc (.cells #[.bool false, .slice A1 (Ig.grp ax).length c1] 50)).alloc (.cells #[.bool false, .slice A2 0 c2] 50)) (.cells (madeCells #[.int .i64 0] k) 3)) (.cells #[.int .i64 1] 3)
  rw [hA2] at hsrc
  have hrow : RowC 3 1 (w1.heap.size + 1 + 1) k k (madeCells #[.int .i64 0] k).toList (.slice (some ⟨w1.heap.size + 1 + 1, 0, none⟩) k k) ((((w1.alloc (.cells #[.bool false, .slice A1 (Ig.grp ax).length c1] 50)).alloc (.cells #[.bool false, .slice A2 0 c2] 50)).alloc (.cells (madeCells #[.int .i64 0] k) 3)).alloc (.cells #[.int .i64 1] 3)) :=
    ⟨w1.heap.size + 1 + 1, _, rfl, Nat.le_refl _, Nat.le_refl _, hR0.new _, by simp [madeCells], by rw [List.take_of_length_le (by simp [madeCells])]⟩
  have hsz4 : w1.heap.size + 1 + 1 ≤ ((((w1.alloc (.cells #[.bool false, .slice A1 (Ig.grp ax).length c1] 50)).alloc (.cells #[.bool false, .slice A2 0 c2] 50)).alloc (.cells (madeCells #[.int .i64 0] k) 3)).alloc (.cells #[.int .i64 1] 3)).heap.size := by rw [alloc_size, hA2]; omega
  go_wp2_with (at_builtin; refine wpList_append_nums rfl (.tmp 29) (.tmp 30) rfl (w1.heap.size + 1 + 1) k k 1 (madeCells #[.int .i64 0] k).toList [.int .i64 1] _ _ rfl rfl hrow hsz4 hsrc (by unfold maxLen; omega) (by omega) ?_; intro v' w' cap' e1 e2 e3 e4)
  have hb4 := e2 trivial
  have hNr : NumAt w' (10000 ^ k) v' := by
    have hfl : (madeCells #[.int .i64 0] k).toList ++ [.int .i64 1] = (Ig.grp (10000 ^ k)).flatMap intC := by
      rw [Ig.grp_pow, List.flatMap_append]
      congr 1
      rw [flat_ints, List.map_replicate]
      refine List.ext_getElem (by simp [madeCells]) fun i h1 h2 => ?_
      simp [madeCells, Nat.mod_one]
    have hln : k + 1 = (Ig.grp (10000 ^ k)).length := by rw [Ig.grp_pow]; simp
    rw [hfl, hln] at e3
    obtain ⟨A, h1, h2, h3⟩ := RowC.at (f := intC) (size := 1) (fun _ => rfl) e3
    exact ⟨A, cap', h1, h2, h3, e4⟩
  have B1' := (B1.call hbb).call hb4
  have hu' := (hu.call hbb).call hb4
  have hb1' := bCall (bCall hb1 hbb) hb4
  have hrl : (Ig.grp (10000 ^ k)).length ≤ 26 := by rw [Ig.grp_pow]; simp; omega
  have hrp : 0 < 10000 ^ k := Nat.pos_of_ne_zero (by simp)
  clear hrow hsrc hbb hR0 hA0 hA1 hA2 hsz4 hmk e1 e2 e3 e4 hb4 B1 hu hb1 hb2
  generalize 10000 ^ k = r0 at *
  go_loopw [7, 8, 9, 10, 11] (fun s7 s8 s9 s10 s11 wr => ∃ r, NumAt wr r s7 ∧ 0 < r ∧ (Ig.grp r).length ≤ 26 ∧ Kp (ax < (r + 1) * (r + 1)) ∧ Bx wr w1.heap.size 50 #[.bool false, .slice A1 (Ig.grp ax).length c1] ∧ NumAt wr ax (.slice A1 (Ig.grp ax).length c1) ∧ Below w.heap.size w wr) (fun s7 s8 s9 s10 s11 wr => Classical.epsilon (fun k => NumAt wr k s7))
  case atStart => exact ⟨r0, hNr, hrp, hrl, hst, B1', hu', hb1'⟩
  case round =>
    clear hNr hrp hrl hst B1' hu' hb1'
    obtain ⟨r, hr, hrp, hrl, hst, B1, hu, hb⟩ := hrel
    have hm := numV_eq hr
    obtain ⟨A3, c3, rfl, -⟩ := id hr.out
    have k1 := B1.cell 1 rfl
    by_cases hz : ax = 0
    · have hf := hfit 0 (by omega)
      subst hz
      simp only [hl00] at k1
      clear hfit hm
      rw [show ((0 : Nat) : Int) = 0 from rfl, itoa_zero] at hf
      go_wp2
      go_ret2
      exact ⟨0, by rw [show ((0 : Nat) : Int) = 0 from rfl, itoa_zero]; rfl, by decide, by decide, hb⟩
    · have hl0 : (Ig.grp ax).length ≠ 0 := fun e => hz (Ig.grp_eq_nil.1 e)
      have t0 : decide (((Ig.grp ax).length : Int) > 0) = true := decide_eq_true (by omega)
      have hO := over_any ax r _ _ wr hu hr hrp (by omega) (by omega)
      go_wp2_with fail
      refine hO.mono ?_
      rintro _ w5 ⟨q, qr, rfl, hq, hqr, hb5⟩
      clear hO t0
      replace hu := hu.call hb5
      replace hr := hr.call hb5
      replace B1 := B1.call hb5
      replace hb := bCall hb hb5
      obtain ⟨A5, c5, rfl, -⟩ := id hq.out
      obtain ⟨A6, c6, rfl, -⟩ := id hqr.out
      have hql : (Ig.grp (ax / r)).length ≤ 50 := Ig.grp_len_of lx (Nat.div_le_self _ _)
      have hP := plus_any r (ax / r) _ _ w5 hr hq (by omega) (by omega)
      go_wp2_with fail
      refine hP.mono ?_
      rintro _ w6 ⟨sm, rfl, hsm, hb6⟩
      clear hP hb5
      replace hu := hu.call hb6
      replace hr := hr.call hb6
      replace B1 := B1.call hb6
      replace hb := bCall hb hb6
      obtain ⟨A7, c7, rfl, -⟩ := id hsm.out
      have hb7 := bNewW w6 (.cells #[.int .i64 2] 3)
      have h2 := num_digit w6 2 (by decide) (by decide)
      have hO := over_any (r + ax / r) 2 _ _ _ (hsm.call hb7) h2 (by decide) (by have := Ig.grp_add_len (k := 50) (a := r) (b := ax / r) (by omega) hql; omega) (by rw [show Ig.grp 2 = [2] by rw [Ig.grp_pos (by decide), show 2 / 10000 = 0 from rfl, Ig.grp_zero]; rfl]; decide)
      go_wp2_with fail
      refine hO.mono ?_
      rintro _ w8 ⟨nx, nr, rfl, hnx, hnr, hb8⟩
      clear hO hb6
      replace hb8 := bCall hb7 hb8
      replace hu := hu.call hb8
      replace hr := hr.call hb8
      replace B1 := B1.call hb8
      replace hb := bCall hb hb8
      obtain ⟨A8, c8, rfl, -⟩ := id hnx.out
      obtain ⟨A9, c9, rfl, -⟩ := id hnr.out
      have hnl : (Ig.grp ((r + ax / r) / 2)).length ≤ 51 := Ig.grp_len_of (Ig.grp_add_len (k := 50) (a := r) (b := ax / r) (by omega) hql) (Nat.div_le_self _ _)
      have hnext := Kp.mk (Ig.root_next (x := ax) hrp)
      have hnp := Ig.root_pos (x := ax) (by omega) hrp
      have hend := fun h => Ig.newton hrp hst.out (x := ax) (r := r) h
      have hC := compare_any ((r + ax / r) / 2) r _ _ w8 hnx hr (by omega) (by omega)
      clear hq hqr hsm h2 hnr hb7 hb8 hql
      generalize (r + ax / r) / 2 = nn at *
      rcases Nat.lt_or_ge nn r with hlt | hge
      · rw [Ig.cmpI_lt hlt] at hC
        go_wp2_with fail
        refine hC.mono ?_
        rintro _ w9 ⟨rfl, hb9⟩
        clear hC hend
        have hnx9 := hnx.call hb9
        have hm9 := numV_eq hnx9
        have hr9 := B1.call hb9
        go_wp2
        refine ⟨⟨nn, hnx9, hnp, Ig.grp_len_of hrl (Nat.le_of_lt hlt), hnext, hr9, hu.call hb9, bCall hb hb9⟩, ?_⟩
        rw [hm, hm9]
        exact hlt
      · have hfin := hend hge
        have hf := hfit r hfin
        have t5 := cmpI_ge hge
        generalize Ig.cmpI nn r = ci at *
        go_wp2_with fail
        refine hC.mono ?_
        rintro _ w9 ⟨rfl, hb9⟩
        have hT := text_any false r _ w9 (hr.call hb9) (by omega) (hE.below (bCall hb hb9))
        rw [hf.out.1, hf.out.2] at hT
        clear hC hend hfit hm
        go_wp2_with fail
        refine hT.mono ?_
        rintro _ w10 ⟨rfl, hb10⟩
        clear hT
        go_wp2
        go_ret2
        exact ⟨r, rfl, hfin, hst.out, bCall (bCall hb hb9) hb10⟩
end Go.Proofs.YtdjnkaeggnkgeaaGreatDoor
