/- Made of dialtoneref03. -/
import Derived.Test.YtdjnkaeggnkgeaaGreatDoorIRefText
import Derived.Test.YtdjnkaeggnkgeaaGreatDoorRgG
namespace Go.Proofs.YtdjnkaeggnkgeaaGreatDoor
set_option linter.unusedVariables false
set_option linter.unusedSimpArgs false
open Go.RowKit Go.Shelf
def madeL (s : List UInt8) (r : Nat) : List Int := (s.take r).map fun c => ((c.toNat % 10 : Nat) : Int)
theorem madeL_len (s : List UInt8) (r : Nat) : (madeL s r).length ≤ r := by simp [madeL]; omega
theorem madeL_step {s : List UInt8} {r : Nat} (h : r < s.length) : madeL s (r + 1) = madeL s r ++ [((s[r].toNat % 10 : Nat) : Int)] := by
  unfold madeL
  rw [List.take_succ_eq_append_getElem h, List.map_append, List.map_singleton]
theorem madeL_end {s : List UInt8} {r m : Nat} (h : s.length ≤ r ∨ m ≤ r) (hr : r ≤ s.length) (hm : r ≤ m) : madeL s r = madeL s m := by
  rcases h with h | h
  · unfold madeL
    rw [List.take_of_length_le h, List.take_of_length_le (by omega)]
  · rw [show r = m by omega]
theorem madeL_trim (s : List UInt8) (m : Nat) : Ig.trimG (madeL s m) = Dx.grp (Dx.madeN s m) := Dx.made_trim s m
set_option maxRecDepth 100000 in
set_option maxHeartbeats 4000000 in
theorem Made_any (s : List UInt8) (m : Nat) (w : World) (hs : s.length ≤ 9223372036854775807) (hm : m ≤ 1000) :
    Calls Tryz.prog 13 #[.string ⟨s.toArray⟩, .int .i64 m] w fun e w' => e = .returned (.string ⟨(Lib.itoa (sgn (Dx.madeB s) (Dx.madeN s m))).toArray⟩) ∧ Below w.heap.size w w' := by
  have hownI := World.ownsRow_nil w w.heap.size 3 1
  go_enter Tryz.func13, Tryz.ntmps13
  go_wp2_with fail
  go_loopw [5, 6] (fun s5 s6 wr => ∃ r : Nat, r ≤ s.length ∧ r ≤ m ∧ s6 = .int .i64 r ∧ wr.ownsRow w.heap.size 3 1 s5 (madeL s r).length ((madeL s r).flatMap intC) ∧ Below w.heap.size w wr) (fun s5 s6 wr => m - (intOf s6).toNat)
  case atStart => exact ⟨0, by omega, by omega, rfl, hownI, Below.refl _ _⟩
  case round =>
    clear hownI
    obtain ⟨r, hrs, hrm, rfl, hown, hb⟩ := hrel
    have hll := madeL_len s r
    by_cases h1 : r < s.length ∧ r < m
    · obtain ⟨h1, h2⟩ := h1
      have hst := madeL_step h1
      have t0 : decide ((r : Int) < (s.length : Int)) = true := decide_eq_true (by omega)
      have t1 : decide ((r : Int) < (m : Int)) = true := decide_eq_true (by omega)
      have hbyte : s[r].toNat < 256 := s[r].toNat_lt
      generalize hx : s[r].toNat = x at *
      obtain ⟨i0, z0, hi, hz, hs1, hz1, hby⟩ := intI
      have hbn := bNewW wr (.cells #[.int .i64 ((x : Int) % 10)] 3)
      have hown1 := own_callG hown hbn
      go_wp2_with (at_builtin; refine wpList_append_own _ rfl (.tmp 20) (.tmp 26) 44 rfl w.heap.size 3 i0 z0 1 8 Tryz.underlying44 hi hz hs1 hby hz1 (by decide) _ _ _ rfl hown1 ⟨wr.heap.size, 0, none⟩ 1 1 [.int .i64 ((x : Int) % 10)] rfl rfl ?c1 ?c2 ?c3 ?c4 ?c5 ?_)
      case c1 =>
        intro j u hj
        match j, hj with
        | 0, hj => simp at hj; subst hj; simp [Addr.add]
      case c2 => intro u hu; simp at hu; subst hu; rfl
      case c3 => unfold maxLen; omega
      case c4 => omega
      case c5 => have := hbn.size; have := hb.size; omega
      intro v' w2 hown' hgrow _
      have hb' := (bCall hb hbn).grown hgrow (by have := hbn.size; have := hb.size; omega) (fun k hk => (hown1.lt k hk).1)
      have hnx : w2.ownsRow w.heap.size 3 1 v' (madeL s (r + 1)).length ((madeL s (r + 1)).flatMap intC) := by
        rw [hst, List.length_append, List.flatMap_append]
        have e : ((x : Int) % 10) = ((x % 10 : Nat) : Int) := by omega
        rw [e] at hown'
        exact hown'
      clear hown' hown1 hown hi hz hs1 hz1 hby hgrow hst hll
      go_wp2
      exact ⟨⟨r + 1, by omega, by omega, by go_num, hnx, hb'⟩, by simp [intOf]; omega⟩
    · have hend := madeL_end (s := s) (r := r) (m := m) (by omega) hrs hrm
      rw [hend] at hown hll
      clear hend
      have hT := madeL_trim s m
      generalize madeL s m = l at *
      obtain ⟨A, cap, rfl, hA, hcap, hcm, -⟩ := own_at hown
      have hR := fun d os => rtrim_any l A cap (Sort.grow (redrawn wr d) os) ((hA.below (below_regrown wr d os)).more (below_regrown wr d os).size) hcap (by omega)
      have hAt : At 1 intC wr wr.heap.size A (Ig.trimG l) := by rw [← trim_take]; exact hA.take _
      have hle : (Ig.trimG l).length ≤ l.length := by rw [← trim_take, List.length_take]; omega
      rw [hT] at hR hAt hle
      have hX : ∀ w0 (hw : Below wr.heap.size wr w0) (b : Bool), b = Dx.madeB s → Calls Tryz.prog 36 #[.bool b, .slice A (Dx.grp (Dx.madeN s m)).length cap] w0 fun e w' => e = .returned (.tuple #[.string ⟨(Lib.itoa (sgn (Dx.madeB s) (Dx.madeN s m))).toArray⟩, .bool (decide (Lib.nDigits (Dx.madeN s m) ≤ 200))]) ∧ Below w0.heap.size w0 w' := fun w0 hw b hb => by
        subst hb
        exact rtext_any _ _ A cap w0 ((hAt.below hw).more hw.size) (by omega) (by omega)
      have hA0 := hA
      have hT0 := Kp.mk hT
      clear hown hA hT hAt
      generalize decide (Lib.nDigits (Dx.madeN s m) ≤ 200) = fit at *
      have hcond : (r < s.length ∧ ¬ r < m) ∨ ¬ r < s.length := by omega
      have hsc : (s = [] ∧ Dx.madeB s = false) ∨ ∃ c t, s = c :: t ∧ Dx.madeB s = decide (128 ≤ c.toNat) := by
        cases s with
        | nil => exact .inl ⟨rfl, rfl⟩
        | cons c t => exact .inr ⟨c, t, rfl, rfl⟩
      rcases hcond with ⟨h3, h4⟩ | h3
      · have t0 : decide (r < s.length) = true := decide_eq_true (by omega)
        have t1 : decide (r < m) = false := decide_eq_false (by omega)
        go_wp2
        clear t0 hR
        rcases hsc with ⟨rfl, hB⟩ | ⟨c, t, rfl, hB⟩
        · have hN := fun w2 (hb2 : Below wr.heap.size wr w2) => rtrim_any l A cap w2 ((hA0.below hb2).more hb2.size) hcap (by omega)
          rw [hT0.out] at hN
          refine wp_region_rglG [Eqv (.string ⟨([] : List UInt8).toArray⟩), Eqv (.int .i64 (0 : Nat)), Eqv (.bool false), Eqv (.bool false), Eqv undef, Eqv undef, Eqv undef, Eqv (.bool (Dx.madeB (([] : List UInt8)))), Eqv (.slice A l.length cap), Eqv (.slice A (Dx.grp (Dx.madeN (([] : List UInt8)) m)).length cap), Eqv (.tuple #[.string ⟨(Lib.itoa (sgn (Dx.madeB (([] : List UInt8))) (Dx.madeN (([] : List UInt8)) m))).toArray⟩, .bool fit]), Eqv (.tuple #[.string ⟨(Lib.itoa (sgn (Dx.madeB (([] : List UInt8))) (Dx.madeN (([] : List UInt8)) m))).toArray⟩, .bool fit]), Eqv (.string ⟨(Lib.itoa (sgn (Dx.madeB (([] : List UInt8))) (Dx.madeN (([] : List UInt8)) m))).toArray⟩), Eqv (.bool fit), Eqv (.string ⟨(Lib.itoa (sgn (Dx.madeB (([] : List UInt8))) (Dx.madeN (([] : List UInt8)) m))).toArray⟩), Eqv (.bool fit)] 16 43 (by kernel_rfl) rfl rfl (by kernel_rfl) ?_ ?_ ?_
          · simp only [AllS]
            exact ⟨stab_eqv _, stab_eqv _, stab_eqv _, stab_eqv _, stab_eqv _, stab_eqv _, stab_eqv _, stab_eqv _, stab_eqv _, stab_eqv _, stab_eqv _, stab_eqv _, stab_eqv _, stab_eqv _, stab_eqv _, stab_eqv _, trivial⟩
          · simp only [UsersG, List.take, List.length]
            refine ⟨?_, ?_, ?_, ?_, ?_, ?_, ?_, ?_, ?_, ?_, ?_, ?_, ?_, ?_, ?_, ?_, trivial⟩
            all_goals (intro vs w2 hb2 hd; simp only [putD, Act.put, List.nil_append, List.cons_append, List.setIfInBounds_toArray, List.set_cons_succ, List.set_cons_zero, Nat.reduceAdd])
            · clear hd hN hX hB; go_wp2; exact ⟨Below.refl _ _, rfl⟩
            · have e := hd 0 rfl; change vs 0 = _ at e; clear hd hN hX hB; rw [e]; go_wp2; exact ⟨Below.refl _ _, rfl⟩
            · have e := hd 1 rfl; change vs 1 = _ at e; clear hd hN hX hB; rw [e]; go_wp2; exact ⟨Below.refl _ _, by first | rfl | simp [Eqv]⟩
            · have e := hd 2 rfl; change vs 2 = _ at e; clear hd hN hX hB; rw [e]; go_wp2; exact ⟨Below.refl _ _, rfl⟩
            · have e := hd 3 rfl; change vs 3 = _ at e; clear hd hN hX hB; rw [e]; go_wp2; exact ⟨Below.refl _ _, rfl⟩
            · have e := hd 3 rfl; change vs 3 = _ at e; have e' := hd 4 rfl; change vs 4 = _ at e'; clear hd hN hX; rw [e, e']; go_wp2; exact ⟨Below.refl _ _, rfl⟩
            · have e := hd 3 rfl; change vs 3 = _ at e; have e' := hd 5 rfl; change vs 5 = _ at e'; clear hd hN hX; rw [e, e']; go_wp2; exact ⟨Below.refl _ _, rfl⟩
            · have e := hd 3 rfl; change vs 3 = _ at e; have e' := hd 6 rfl; change vs 6 = _ at e'; clear hd hN hX; rw [e, e']; go_wp2; exact ⟨Below.refl _ _, by first | rfl | (rw [hB]; rfl)⟩
            · clear hd hN hX hB; go_wp2; exact ⟨Below.refl _ _, rfl⟩
            · have e := hd 8 rfl; change vs 8 = _ at e; clear hd hX; rw [e]
              have hC := hN w2 hb2
              go_wp2_with fail
              refine hC.mono ?_
              rintro _ _ ⟨rfl, rfl⟩
              clear hC hN
              go_wp2
              exact ⟨Below.refl _ _, rfl⟩
            · have e := hd 7 rfl; change vs 7 = _ at e; have e' := hd 9 rfl; change vs 9 = _ at e'; clear hd hN; rw [e, e']
              have hC := hX w2 hb2 _ rfl
              go_wp2_with fail
              refine hC.mono ?_
              rintro _ w9 ⟨rfl, hb9⟩
              clear hC hX hB
              go_wp2
              rfl
            · have e := hd 10 rfl; change vs 10 = _ at e; clear hd hN hX hB; rw [e]; go_wp2; exact ⟨Below.refl _ _, rfl⟩
            · have e := hd 11 rfl; change vs 11 = _ at e; clear hd hN hX hB; rw [e]; go_wp2; exact ⟨Below.refl _ _, rfl⟩
            · have e := hd 11 rfl; change vs 11 = _ at e; clear hd hN hX hB; rw [e]; go_wp2; exact ⟨Below.refl _ _, rfl⟩
            · have e := hd 12 rfl; change vs 12 = _ at e; clear hd hN hX hB; rw [e]; go_wp2; exact ⟨Below.refl _ _, rfl⟩
            · have e := hd 13 rfl; change vs 13 = _ at e; clear hd hN hX hB; rw [e]; go_wp2; exact ⟨Below.refl _ _, rfl⟩
          · clear hN hX
            intro vs wa hba hR2
            simp only [AllR, Eqv] at hR2
            obtain ⟨-, -, -, -, -, -, -, -, -, -, -, -, -, -, e14, e15, -⟩ := hR2
            simp only [List.drop, List.take, List.map, putD, Act.put, List.setIfInBounds_toArray, List.set_cons_succ, List.set_cons_zero, Nat.reduceAdd]
            rw [e14]
            go_wp2
            go_ret
            exact ⟨rfl, bCall hb hba⟩
        · have hc8 : decide ((c.toNat : Int) ≥ 128) = decide (128 ≤ c.toNat) := decide_eq_decide.2 (by omega)
          have hN := fun w2 (hb2 : Below wr.heap.size wr w2) => rtrim_any l A cap w2 ((hA0.below hb2).more hb2.size) hcap (by omega)
          rw [hT0.out] at hN
          refine wp_region_rglG [Eqv (.string ⟨(c :: t).toArray⟩), Eqv (.int .i64 (t.length + 1 : Nat)), Eqv (.bool true), Eqv (.bool true), Eqv (.string ⟨(c :: t).toArray⟩), Eqv (.int .u8 (c.toNat : Nat)), Eqv (.bool (decide (128 ≤ c.toNat))), Eqv (.bool (Dx.madeB (c :: t))), Eqv (.slice A l.length cap), Eqv (.slice A (Dx.grp (Dx.madeN (c :: t) m)).length cap), Eqv (.tuple #[.string ⟨(Lib.itoa (sgn (Dx.madeB (c :: t)) (Dx.madeN (c :: t) m))).toArray⟩, .bool fit]), Eqv (.tuple #[.string ⟨(Lib.itoa (sgn (Dx.madeB (c :: t)) (Dx.madeN (c :: t) m))).toArray⟩, .bool fit]), Eqv (.string ⟨(Lib.itoa (sgn (Dx.madeB (c :: t)) (Dx.madeN (c :: t) m))).toArray⟩), Eqv (.bool fit), Eqv (.string ⟨(Lib.itoa (sgn (Dx.madeB (c :: t)) (Dx.madeN (c :: t) m))).toArray⟩), Eqv (.bool fit)] 16 43 (by kernel_rfl) rfl rfl (by kernel_rfl) ?_ ?_ ?_
          · simp only [AllS]
            exact ⟨stab_eqv _, stab_eqv _, stab_eqv _, stab_eqv _, stab_eqv _, stab_eqv _, stab_eqv _, stab_eqv _, stab_eqv _, stab_eqv _, stab_eqv _, stab_eqv _, stab_eqv _, stab_eqv _, stab_eqv _, stab_eqv _, trivial⟩
          · simp only [UsersG, List.take, List.length]
            refine ⟨?_, ?_, ?_, ?_, ?_, ?_, ?_, ?_, ?_, ?_, ?_, ?_, ?_, ?_, ?_, ?_, trivial⟩
            all_goals (intro vs w2 hb2 hd; simp only [putD, Act.put, List.nil_append, List.cons_append, List.setIfInBounds_toArray, List.set_cons_succ, List.set_cons_zero, Nat.reduceAdd])
            · clear hd hN hX hB; go_wp2; exact ⟨Below.refl _ _, rfl⟩
            · have e := hd 0 rfl; change vs 0 = _ at e; clear hd hN hX hB; rw [e]; go_wp2; exact ⟨Below.refl _ _, rfl⟩
            · have e := hd 1 rfl; change vs 1 = _ at e; clear hd hN hX hB; rw [e]; go_wp2; exact ⟨Below.refl _ _, by first | rfl | simp [Eqv]⟩
            · have e := hd 2 rfl; change vs 2 = _ at e; clear hd hN hX hB; rw [e]; go_wp2; exact ⟨Below.refl _ _, rfl⟩
            · have e := hd 3 rfl; change vs 3 = _ at e; clear hd hN hX hB; rw [e]; go_wp2; exact ⟨Below.refl _ _, rfl⟩
            · have e := hd 3 rfl; change vs 3 = _ at e; have e' := hd 4 rfl; change vs 4 = _ at e'; clear hd hN hX; rw [e, e']; go_wp2; exact ⟨Below.refl _ _, rfl⟩
            · have e := hd 3 rfl; change vs 3 = _ at e; have e' := hd 5 rfl; change vs 5 = _ at e'; clear hd hN hX; rw [e, e']; go_wp2; exact ⟨Below.refl _ _, rfl⟩
            · have e := hd 3 rfl; change vs 3 = _ at e; have e' := hd 6 rfl; change vs 6 = _ at e'; clear hd hN hX; rw [e, e']; go_wp2; exact ⟨Below.refl _ _, by first | rfl | (rw [hB]; rfl)⟩
            · clear hd hN hX hB; go_wp2; exact ⟨Below.refl _ _, rfl⟩
            · have e := hd 8 rfl; change vs 8 = _ at e; clear hd hX; rw [e]
              have hC := hN w2 hb2
              go_wp2_with fail
              refine hC.mono ?_
              rintro _ _ ⟨rfl, rfl⟩
              clear hC hN
              go_wp2
              exact ⟨Below.refl _ _, rfl⟩
            · have e := hd 7 rfl; change vs 7 = _ at e; have e' := hd 9 rfl; change vs 9 = _ at e'; clear hd hN; rw [e, e']
              have hC := hX w2 hb2 _ rfl
              go_wp2_with fail
              refine hC.mono ?_
              rintro _ w9 ⟨rfl, hb9⟩
              clear hC hX hB
              go_wp2
              rfl
            · have e := hd 10 rfl; change vs 10 = _ at e; clear hd hN hX hB; rw [e]; go_wp2; exact ⟨Below.refl _ _, rfl⟩
            · have e := hd 11 rfl; change vs 11 = _ at e; clear hd hN hX hB; rw [e]; go_wp2; exact ⟨Below.refl _ _, rfl⟩
            · have e := hd 11 rfl; change vs 11 = _ at e; clear hd hN hX hB; rw [e]; go_wp2; exact ⟨Below.refl _ _, rfl⟩
            · have e := hd 12 rfl; change vs 12 = _ at e; clear hd hN hX hB; rw [e]; go_wp2; exact ⟨Below.refl _ _, rfl⟩
            · have e := hd 13 rfl; change vs 13 = _ at e; clear hd hN hX hB; rw [e]; go_wp2; exact ⟨Below.refl _ _, rfl⟩
          · clear hN hX
            intro vs wa hba hR2
            simp only [AllR, Eqv] at hR2
            obtain ⟨-, -, -, -, -, -, -, -, -, -, -, -, -, -, e14, e15, -⟩ := hR2
            simp only [List.drop, List.take, List.map, putD, Act.put, List.setIfInBounds_toArray, List.set_cons_succ, List.set_cons_zero, Nat.reduceAdd]
            rw [e14]
            go_wp2
            go_ret
            exact ⟨rfl, bCall hb hba⟩
      · have t0 : decide (r < s.length) = false := decide_eq_false (by omega)
        go_wp2
        clear t0 hR
        rcases hsc with ⟨rfl, hB⟩ | ⟨c, t, rfl, hB⟩
        · have hN := fun w2 (hb2 : Below wr.heap.size wr w2) => rtrim_any l A cap w2 ((hA0.below hb2).more hb2.size) hcap (by omega)
          rw [hT0.out] at hN
          refine wp_region_rglG [Eqv (.string ⟨([] : List UInt8).toArray⟩), Eqv (.int .i64 (0 : Nat)), Eqv (.bool false), Eqv (.bool false), Eqv undef, Eqv undef, Eqv undef, Eqv (.bool (Dx.madeB (([] : List UInt8)))), Eqv (.slice A l.length cap), Eqv (.slice A (Dx.grp (Dx.madeN (([] : List UInt8)) m)).length cap), Eqv (.tuple #[.string ⟨(Lib.itoa (sgn (Dx.madeB (([] : List UInt8))) (Dx.madeN (([] : List UInt8)) m))).toArray⟩, .bool fit]), Eqv (.tuple #[.string ⟨(Lib.itoa (sgn (Dx.madeB (([] : List UInt8))) (Dx.madeN (([] : List UInt8)) m))).toArray⟩, .bool fit]), Eqv (.string ⟨(Lib.itoa (sgn (Dx.madeB (([] : List UInt8))) (Dx.madeN (([] : List UInt8)) m))).toArray⟩), Eqv (.bool fit), Eqv (.string ⟨(Lib.itoa (sgn (Dx.madeB (([] : List UInt8))) (Dx.madeN (([] : List UInt8)) m))).toArray⟩), Eqv (.bool fit)] 16 43 (by kernel_rfl) rfl rfl (by kernel_rfl) ?_ ?_ ?_
          · simp only [AllS]
            exact ⟨stab_eqv _, stab_eqv _, stab_eqv _, stab_eqv _, stab_eqv _, stab_eqv _, stab_eqv _, stab_eqv _, stab_eqv _, stab_eqv _, stab_eqv _, stab_eqv _, stab_eqv _, stab_eqv _, stab_eqv _, stab_eqv _, trivial⟩
          · simp only [UsersG, List.take, List.length]
            refine ⟨?_, ?_, ?_, ?_, ?_, ?_, ?_, ?_, ?_, ?_, ?_, ?_, ?_, ?_, ?_, ?_, trivial⟩
            all_goals (intro vs w2 hb2 hd; simp only [putD, Act.put, List.nil_append, List.cons_append, List.setIfInBounds_toArray, List.set_cons_succ, List.set_cons_zero, Nat.reduceAdd])
            · clear hd hN hX hB; go_wp2; exact ⟨Below.refl _ _, rfl⟩
            · have e := hd 0 rfl; change vs 0 = _ at e; clear hd hN hX hB; rw [e]; go_wp2; exact ⟨Below.refl _ _, rfl⟩
            · have e := hd 1 rfl; change vs 1 = _ at e; clear hd hN hX hB; rw [e]; go_wp2; exact ⟨Below.refl _ _, by first | rfl | simp [Eqv]⟩
            · have e := hd 2 rfl; change vs 2 = _ at e; clear hd hN hX hB; rw [e]; go_wp2; exact ⟨Below.refl _ _, rfl⟩
            · have e := hd 3 rfl; change vs 3 = _ at e; clear hd hN hX hB; rw [e]; go_wp2; exact ⟨Below.refl _ _, rfl⟩
            · have e := hd 3 rfl; change vs 3 = _ at e; have e' := hd 4 rfl; change vs 4 = _ at e'; clear hd hN hX; rw [e, e']; go_wp2; exact ⟨Below.refl _ _, rfl⟩
            · have e := hd 3 rfl; change vs 3 = _ at e; have e' := hd 5 rfl; change vs 5 = _ at e'; clear hd hN hX; rw [e, e']; go_wp2; exact ⟨Below.refl _ _, rfl⟩
            · have e := hd 3 rfl; change vs 3 = _ at e; have e' := hd 6 rfl; change vs 6 = _ at e'; clear hd hN hX; rw [e, e']; go_wp2; exact ⟨Below.refl _ _, by first | rfl | (rw [hB]; rfl)⟩
            · clear hd hN hX hB; go_wp2; exact ⟨Below.refl _ _, rfl⟩
            · have e := hd 8 rfl; change vs 8 = _ at e; clear hd hX; rw [e]
              have hC := hN w2 hb2
              go_wp2_with fail
              refine hC.mono ?_
              rintro _ _ ⟨rfl, rfl⟩
              clear hC hN
              go_wp2
              exact ⟨Below.refl _ _, rfl⟩
            · have e := hd 7 rfl; change vs 7 = _ at e; have e' := hd 9 rfl; change vs 9 = _ at e'; clear hd hN; rw [e, e']
              have hC := hX w2 hb2 _ rfl
              go_wp2_with fail
              refine hC.mono ?_
              rintro _ w9 ⟨rfl, hb9⟩
              clear hC hX hB
              go_wp2
              rfl
            · have e := hd 10 rfl; change vs 10 = _ at e; clear hd hN hX hB; rw [e]; go_wp2; exact ⟨Below.refl _ _, rfl⟩
            · have e := hd 11 rfl; change vs 11 = _ at e; clear hd hN hX hB; rw [e]; go_wp2; exact ⟨Below.refl _ _, rfl⟩
            · have e := hd 11 rfl; change vs 11 = _ at e; clear hd hN hX hB; rw [e]; go_wp2; exact ⟨Below.refl _ _, rfl⟩
            · have e := hd 12 rfl; change vs 12 = _ at e; clear hd hN hX hB; rw [e]; go_wp2; exact ⟨Below.refl _ _, rfl⟩
            · have e := hd 13 rfl; change vs 13 = _ at e; clear hd hN hX hB; rw [e]; go_wp2; exact ⟨Below.refl _ _, rfl⟩
          · clear hN hX
            intro vs wa hba hR2
            simp only [AllR, Eqv] at hR2
            obtain ⟨-, -, -, -, -, -, -, -, -, -, -, -, -, -, e14, e15, -⟩ := hR2
            simp only [List.drop, List.take, List.map, putD, Act.put, List.setIfInBounds_toArray, List.set_cons_succ, List.set_cons_zero, Nat.reduceAdd]
            rw [e14]
            go_wp2
            go_ret
            exact ⟨rfl, bCall hb hba⟩
        · have hc8 : decide ((c.toNat : Int) ≥ 128) = decide (128 ≤ c.toNat) := decide_eq_decide.2 (by omega)
          have hN := fun w2 (hb2 : Below wr.heap.size wr w2) => rtrim_any l A cap w2 ((hA0.below hb2).more hb2.size) hcap (by omega)
          rw [hT0.out] at hN
          refine wp_region_rglG [Eqv (.string ⟨(c :: t).toArray⟩), Eqv (.int .i64 (t.length + 1 : Nat)), Eqv (.bool true), Eqv (.bool true), Eqv (.string ⟨(c :: t).toArray⟩), Eqv (.int .u8 (c.toNat : Nat)), Eqv (.bool (decide (128 ≤ c.toNat))), Eqv (.bool (Dx.madeB (c :: t))), Eqv (.slice A l.length cap), Eqv (.slice A (Dx.grp (Dx.madeN (c :: t) m)).length cap), Eqv (.tuple #[.string ⟨(Lib.itoa (sgn (Dx.madeB (c :: t)) (Dx.madeN (c :: t) m))).toArray⟩, .bool fit]), Eqv (.tuple #[.string ⟨(Lib.itoa (sgn (Dx.madeB (c :: t)) (Dx.madeN (c :: t) m))).toArray⟩, .bool fit]), Eqv (.string ⟨(Lib.itoa (sgn (Dx.madeB (c :: t)) (Dx.madeN (c :: t) m))).toArray⟩), Eqv (.bool fit), Eqv (.string ⟨(Lib.itoa (sgn (Dx.madeB (c :: t)) (Dx.madeN (c :: t) m))).toArray⟩), Eqv (.bool fit)] 16 43 (by kernel_rfl) rfl rfl (by kernel_rfl) ?_ ?_ ?_
          · simp only [AllS]
            exact ⟨stab_eqv _, stab_eqv _, stab_eqv _, stab_eqv _, stab_eqv _, stab_eqv _, stab_eqv _, stab_eqv _, stab_eqv _, stab_eqv _, stab_eqv _, stab_eqv _, stab_eqv _, stab_eqv _, stab_eqv _, stab_eqv _, trivial⟩
          · simp only [UsersG, List.take, List.length]
            refine ⟨?_, ?_, ?_, ?_, ?_, ?_, ?_, ?_, ?_, ?_, ?_, ?_, ?_, ?_, ?_, ?_, trivial⟩
            all_goals (intro vs w2 hb2 hd; simp only [putD, Act.put, List.nil_append, List.cons_append, List.setIfInBounds_toArray, List.set_cons_succ, List.set_cons_zero, Nat.reduceAdd])
            · clear hd hN hX hB; go_wp2; exact ⟨Below.refl _ _, rfl⟩
            · have e := hd 0 rfl; change vs 0 = _ at e; clear hd hN hX hB; rw [e]; go_wp2; exact ⟨Below.refl _ _, rfl⟩
            · have e := hd 1 rfl; change vs 1 = _ at e; clear hd hN hX hB; rw [e]; go_wp2; exact ⟨Below.refl _ _, by first | rfl | simp [Eqv]⟩
            · have e := hd 2 rfl; change vs 2 = _ at e; clear hd hN hX hB; rw [e]; go_wp2; exact ⟨Below.refl _ _, rfl⟩
            · have e := hd 3 rfl; change vs 3 = _ at e; clear hd hN hX hB; rw [e]; go_wp2; exact ⟨Below.refl _ _, rfl⟩
            · have e := hd 3 rfl; change vs 3 = _ at e; have e' := hd 4 rfl; change vs 4 = _ at e'; clear hd hN hX; rw [e, e']; go_wp2; exact ⟨Below.refl _ _, rfl⟩
            · have e := hd 3 rfl; change vs 3 = _ at e; have e' := hd 5 rfl; change vs 5 = _ at e'; clear hd hN hX; rw [e, e']; go_wp2; exact ⟨Below.refl _ _, rfl⟩
            · have e := hd 3 rfl; change vs 3 = _ at e; have e' := hd 6 rfl; change vs 6 = _ at e'; clear hd hN hX; rw [e, e']; go_wp2; exact ⟨Below.refl _ _, by first | rfl | (rw [hB]; rfl)⟩
            · clear hd hN hX hB; go_wp2; exact ⟨Below.refl _ _, rfl⟩
            · have e := hd 8 rfl; change vs 8 = _ at e; clear hd hX; rw [e]
              have hC := hN w2 hb2
              go_wp2_with fail
              refine hC.mono ?_
              rintro _ _ ⟨rfl, rfl⟩
              clear hC hN
              go_wp2
              exact ⟨Below.refl _ _, rfl⟩
            · have e := hd 7 rfl; change vs 7 = _ at e; have e' := hd 9 rfl; change vs 9 = _ at e'; clear hd hN; rw [e, e']
              have hC := hX w2 hb2 _ rfl
              go_wp2_with fail
              refine hC.mono ?_
              rintro _ w9 ⟨rfl, hb9⟩
              clear hC hX hB
              go_wp2
              rfl
            · have e := hd 10 rfl; change vs 10 = _ at e; clear hd hN hX hB; rw [e]; go_wp2; exact ⟨Below.refl _ _, rfl⟩
            · have e := hd 11 rfl; change vs 11 = _ at e; clear hd hN hX hB; rw [e]; go_wp2; exact ⟨Below.refl _ _, rfl⟩
            · have e := hd 11 rfl; change vs 11 = _ at e; clear hd hN hX hB; rw [e]; go_wp2; exact ⟨Below.refl _ _, rfl⟩
            · have e := hd 12 rfl; change vs 12 = _ at e; clear hd hN hX hB; rw [e]; go_wp2; exact ⟨Below.refl _ _, rfl⟩
            · have e := hd 13 rfl; change vs 13 = _ at e; clear hd hN hX hB; rw [e]; go_wp2; exact ⟨Below.refl _ _, rfl⟩
          · clear hN hX
            intro vs wa hba hR2
            simp only [AllR, Eqv] at hR2
            obtain ⟨-, -, -, -, -, -, -, -, -, -, -, -, -, -, e14, e15, -⟩ := hR2
            simp only [List.drop, List.take, List.map, putD, Act.put, List.setIfInBounds_toArray, List.set_cons_succ, List.set_cons_zero, Nat.reduceAdd]
            rw [e14]
            go_wp2
            go_ret
            exact ⟨rfl, bCall hb hba⟩
end Go.Proofs.YtdjnkaeggnkgeaaGreatDoor
