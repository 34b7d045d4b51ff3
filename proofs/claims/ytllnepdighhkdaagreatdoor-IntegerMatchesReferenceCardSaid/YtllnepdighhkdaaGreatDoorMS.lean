/- Made of dialtoneref03. sane of dialtonelaw03. What the laws of package dialtonelaw03 share: sizes, contracts with their results named. -/
import Derived.Test.YtllnepdighhkdaaGreatDoorME
import Derived.Test.YtllnepdighhkdaaGreatDoorMK
import Derived.Test.YtllnepdighhkdaaGreatDoorMD
import Derived.Test.YtllnepdighhkdaaGreatDoorICompare
namespace Go.Proofs.YtllnepdighhkdaaGreatDoor
set_option linter.unusedVariables false
set_option linter.unusedSimpArgs false
open Go.RowKit Go.Shelf
def madeL (s : List UInt8) (r : Nat) : List Int := (s.take r).map fun c => ((c.toNat % 10 : Nat) : Int)
theorem madeL_len (s : List UInt8) (r : Nat) : (madeL s r).length ≤ r := by simp [madeL]; omega
theorem madeL_step {s : List UInt8} {r : Nat} (h : r < s.length) : madeL s (r + 1) = madeL s r ++ [((s[r].toNat % 10 : Nat) : Int)] := by
  unfold madeL
  rw [List.take_succ_eq_append_getElem h, List.map_append, List.map_singleton]
theorem madeL_end {s : List UInt8} {r m : Nat} (h : s.length ≤ r ∨ m ≤ r) (hr : r ≤ s.length) (hm : r ≤ m) : madeL s r = madeL s m := by
  rcases h with h | h
  · unfold madeL
    rw [List.take_of_length_le h, List.take_of_length_le (by omega)]
  · rw [show r = m by omega]
theorem madeL_trim (s : List UInt8) (m : Nat) : Ig.trimG (madeL s m) = Dx.grp (Dx.madeN s m) := Dx.made_trim s m
set_option maxRecDepth 100000 in
set_option maxHeartbeats 4000000 in
theorem Made_any (s : List UInt8) (m : Nat) (w : World) (hs : s.length ≤ 9223372036854775807) (hm : m ≤ 1000) :
    Calls Tryz.prog 14 #[.string ⟨s.toArray⟩, .int .i64 m] w fun e w' => e = .returned (.string ⟨(Lib.itoa (sgn (Dx.madeB s) (Dx.madeN s m))).toArray⟩) ∧ Below w.heap.size w w' := by
  have hownI := World.ownsRow_nil w w.heap.size 3 1
  go_enter Tryz.func14, Tryz.ntmps14
  go_wp2_with fail
  go_loopw [5, 6] (fun s5 s6 wr => ∃ r : Nat, r ≤ s.length ∧ r ≤ m ∧ s6 = .int .i64 r ∧ wr.ownsRow w.heap.size 3 1 s5 (madeL s r).length ((madeL s r).flatMap intC) ∧ Below w.heap.size w wr) (fun s5 s6 wr => m - (intOf s6).toNat)
  case atStart => exact ⟨0, by omega, by omega, rfl, hownI, Below.refl _ _⟩
  case round =>
    clear hownI
    obtain ⟨r, hrs, hrm, rfl, hown, hb⟩ := hrel
    have hll := madeL_len s r
    by_cases h1 : r < s.length ∧ r < m
    · obtain ⟨h1, h2⟩ := h1
      have hst := madeL_step h1
      have t0 : decide ((r : Int) < (s.length : Int)) = true := decide_eq_true (by omega)
      have t1 : decide ((r : Int) < (m : Int)) = true := decide_eq_true (by omega)
      have hbyte : s[r].toNat < 256 := s[r].toNat_lt
      generalize hx : s[r].toNat = x at *
      obtain ⟨i0, z0, hi, hz, hs1, hz1, hby⟩ := intI
      have hbn := bNewW wr (.cells #[.int .i64 ((x : Int) % 10)] 3)
      have hown1 := own_callG hown hbn
      go_wp2_with (at_builtin; refine wpList_append_own _ rfl (.tmp 20) (.tmp 26) 64 rfl w.heap.size 3 i0 z0 1 8 Tryz.underlying64 hi hz hs1 hby hz1 (by decide) _ _ _ rfl hown1 ⟨wr.heap.size, 0, none⟩ 1 1 [.int .i64 ((x : Int) % 10)] rfl rfl ?c1 ?c2 ?c3 ?c4 ?c5 ?_)
      case c1 =>
        intro j u hj
        match j, hj with
        | 0, hj => simp at hj; subst hj; simp [Addr.add]
      case c2 => intro u hu; simp at hu; subst hu; rfl
      case c3 => unfold maxLen; omega
      case c4 => omega
      case c5 => have := hbn.size; have := hb.size; omega
      intro v' w2 hown' hgrow _
      have hb' := (bCall hb hbn).grown hgrow (by have := hbn.size; have := hb.size; omega) (fun k hk => (hown1.lt k hk).1)
      have hnx : w2.ownsRow w.heap.size 3 1 v' (madeL s (r + 1)).length ((madeL s (r + 1)).flatMap intC) := by
        rw [hst, List.length_append, List.flatMap_append]
        have e : ((x : Int) % 10) = ((x % 10 : Nat) : Int) := by omega
        rw [e] at hown'
        exact hown'
      clear hown' hown1 hown hi hz hs1 hz1 hby hgrow hst hll
      go_wp2
      exact ⟨⟨r + 1, by omega, by omega, by go_num, hnx, hb'⟩, by simp [intOf]; omega⟩
    · have hend := madeL_end (s := s) (r := r) (m := m) (by omega) hrs hrm
      rw [hend] at hown hll
      clear hend
      have hT := madeL_trim s m
      generalize madeL s m = l at *
      obtain ⟨A, cap, rfl, hA, hcap, hcm, -⟩ := own_at hown
      have hR := fun d os => rtrim_any l A cap (Sort.grow (redrawn wr d) os) ((hA.below (below_regrown wr d os)).more (below_regrown wr d os).size) hcap (by omega)
      have hAt : At 1 intC wr wr.heap.size A (Ig.trimG l) := by rw [← trim_take]; exact hA.take _
      have hle : (Ig.trimG l).length ≤ l.length := by rw [← trim_take, List.length_take]; omega
      rw [hT] at hR hAt hle
      have hX : ∀ w0 (hw : Below wr.heap.size wr w0) (b : Bool), b = Dx.madeB s → Calls Tryz.prog 83 #[.bool b, .slice A (Dx.grp (Dx.madeN s m)).length cap] w0 fun e w' => e = .returned (.tuple #[.string ⟨(Lib.itoa (sgn (Dx.madeB s) (Dx.madeN s m))).toArray⟩, .bool (decide (Lib.nDigits (Dx.madeN s m) ≤ 200))]) ∧ Below w0.heap.size w0 w' := fun w0 hw b hb => by
        subst hb
        exact rtext_any _ _ A cap w0 ((hAt.below hw).more hw.size) (by omega) (by omega)
      have hA0 := hA
      have hT0 := Kp.mk hT
      clear hown hA hT hAt
      generalize decide (Lib.nDigits (Dx.madeN s m) ≤ 200) = fit at *
      have hcond : (r < s.length ∧ ¬ r < m) ∨ ¬ r < s.length := by omega
      have hsc : (s = [] ∧ Dx.madeB s = false) ∨ ∃ c t, s = c :: t ∧ Dx.madeB s = decide (128 ≤ c.toNat) := by
        cases s with
        | nil => exact .inl ⟨rfl, rfl⟩
        | cons c t => exact .inr ⟨c, t, rfl, rfl⟩
      rcases hcond with ⟨h3, h4⟩ | h3
      · have t0 : decide (r < s.length) = true := decide_eq_true (by omega)
        have t1 : decide (r < m) = false := decide_eq_false (by omega)
        go_wp2
        clear t0 hR
        rcases hsc with ⟨rfl, hB⟩ | ⟨c, t, rfl, hB⟩
        · have hN := fun w2 (hb2 : Below wr.heap.size wr w2) => rtrim_any l A cap w2 ((hA0.below hb2).more hb2.size) hcap (by omega)
          rw [hT0.out] at hN
          refine wp_region_rglG [Eqv (.string ⟨([] : List UInt8).toArray⟩), Eqv (.int .i64 (0 : Nat)), Eqv (.bool false), Eqv (.bool false), Eqv undef, Eqv undef, Eqv undef, Eqv (.bool (Dx.madeB (([] : List UInt8)))), Eqv (.slice A l.length cap), Eqv (.slice A (Dx.grp (Dx.madeN (([] : List UInt8)) m)).length cap), Eqv (.tuple #[.string ⟨(Lib.itoa (sgn (Dx.madeB (([] : List UInt8))) (Dx.madeN (([] : List UInt8)) m))).toArray⟩, .bool fit]), Eqv (.tuple #[.string ⟨(Lib.itoa (sgn (Dx.madeB (([] : List UInt8))) (Dx.madeN (([] : List UInt8)) m))).toArray⟩, .bool fit]), Eqv (.string ⟨(Lib.itoa (sgn (Dx.madeB (([] : List UInt8))) (Dx.madeN (([] : List UInt8)) m))).toArray⟩), Eqv (.bool fit), Eqv (.string ⟨(Lib.itoa (sgn (Dx.madeB (([] : List UInt8))) (Dx.madeN (([] : List UInt8)) m))).toArray⟩), Eqv (.bool fit)] 16 43 (by kernel_rfl) rfl rfl (by kernel_rfl) ?_ ?_ ?_
          · simp only [AllS]
            exact ⟨stab_eqv _, stab_eqv _, stab_eqv _, stab_eqv _, stab_eqv _, stab_eqv _, stab_eqv _, stab_eqv _, stab_eqv _, stab_eqv _, stab_eqv _, stab_eqv _, stab_eqv _, stab_eqv _, stab_eqv _, stab_eqv _, trivial⟩
          · simp only [UsersG, List.take, List.length]
            refine ⟨?_, ?_, ?_, ?_, ?_, ?_, ?_, ?_, ?_, ?_, ?_, ?_, ?_, ?_, ?_, ?_, trivial⟩
            all_goals (intro vs w2 hb2 hd; simp only [putD, Act.put, List.nil_append, List.cons_append, List.setIfInBounds_toArray, List.set_cons_succ, List.set_cons_zero, Nat.reduceAdd])
            · clear hd hN hX hB; go_wp2; exact ⟨Below.refl _ _, rfl⟩
            · have e := hd 0 rfl; change vs 0 = _ at e; clear hd hN hX hB; rw [e]; go_wp2; exact ⟨Below.refl _ _, rfl⟩
            · have e := hd 1 rfl; change vs 1 = _ at e; clear hd hN hX hB; rw [e]; go_wp2; exact ⟨Below.refl _ _, by first | rfl | simp [Eqv]⟩
            · have e := hd 2 rfl; change vs 2 = _ at e; clear hd hN hX hB; rw [e]; go_wp2; exact ⟨Below.refl _ _, rfl⟩
            · have e := hd 3 rfl; change vs 3 = _ at e; clear hd hN hX hB; rw [e]; go_wp2; exact ⟨Below.refl _ _, rfl⟩
            · have e := hd 3 rfl; change vs 3 = _ at e; have e' := hd 4 rfl; change vs 4 = _ at e'; clear hd hN hX; rw [e, e']; go_wp2; exact ⟨Below.refl _ _, rfl⟩
            · have e := hd 3 rfl; change vs 3 = _ at e; have e' := hd 5 rfl; change vs 5 = _ at e'; clear hd hN hX; rw [e, e']; go_wp2; exact ⟨Below.refl _ _, rfl⟩
            · have e := hd 3 rfl; change vs 3 = _ at e; have e' := hd 6 rfl; change vs 6 = _ at e'; clear hd hN hX; rw [e, e']; go_wp2; exact ⟨Below.refl _ _, by first | rfl | (rw [hB]; rfl)⟩
            · clear hd hN hX hB; go_wp2; exact ⟨Below.refl _ _, rfl⟩
            · have e := hd 8 rfl; change vs 8 = _ at e; clear hd hX; rw [e]
              have hC := hN w2 hb2
              go_wp2_with fail
              refine hC.mono ?_
              rintro _ _ ⟨rfl, rfl⟩
              clear hC hN
              go_wp2
              exact ⟨Below.refl _ _, rfl⟩
            · have e := hd 7 rfl; change vs 7 = _ at e; have e' := hd 9 rfl; change vs 9 = _ at e'; clear hd hN; rw [e, e']
              have hC := hX w2 hb2 _ rfl
              go_wp2_with fail
              refine hC.mono ?_
              rintro _ w9 ⟨rfl, hb9⟩
              clear hC hX hB
              go_wp2
              rfl
            · have e := hd 10 rfl; change vs 10 = _ at e; clear hd hN hX hB; rw [e]; go_wp2; exact ⟨Below.refl _ _, rfl⟩
            · have e := hd 11 rfl; change vs 11 = _ at e; clear hd hN hX hB; rw [e]; go_wp2; exact ⟨Below.refl _ _, rfl⟩
            · have e := hd 11 rfl; change vs 11 = _ at e; clear hd hN hX hB; rw [e]; go_wp2; exact ⟨Below.refl _ _, rfl⟩
            · have e := hd 12 rfl; change vs 12 = _ at e; clear hd hN hX hB; rw [e]; go_wp2; exact ⟨Below.refl _ _, rfl⟩
            · have e := hd 13 rfl; change vs 13 = _ at e; clear hd hN hX hB; rw [e]; go_wp2; exact ⟨Below.refl _ _, rfl⟩
          · clear hN hX
            intro vs wa hba hR2
            simp only [AllR, Eqv] at hR2
            obtain ⟨-, -, -, -, -, -, -, -, -, -, -, -, -, -, e14, e15, -⟩ := hR2
            simp only [List.drop, List.take, List.map, putD, Act.put, List.setIfInBounds_toArray, List.set_cons_succ, List.set_cons_zero, Nat.reduceAdd]
            rw [e14]
            go_wp2
            go_ret
            exact ⟨rfl, bCall hb hba⟩
        · have hc8 : decide ((c.toNat : Int) ≥ 128) = decide (128 ≤ c.toNat) := decide_eq_decide.2 (by omega)
          have hN := fun w2 (hb2 : Below wr.heap.size wr w2) => rtrim_any l A cap w2 ((hA0.below hb2).more hb2.size) hcap (by omega)
          rw [hT0.out] at hN
          refine wp_region_rglG [Eqv (.string ⟨(c :: t).toArray⟩), Eqv (.int .i64 (t.length + 1 : Nat)), Eqv (.bool true), Eqv (.bool true), Eqv (.string ⟨(c :: t).toArray⟩), Eqv (.int .u8 (c.toNat : Nat)), Eqv (.bool (decide (128 ≤ c.toNat))), Eqv (.bool (Dx.madeB (c :: t))), Eqv (.slice A l.length cap), Eqv (.slice A (Dx.grp (Dx.madeN (c :: t) m)).length cap), Eqv (.tuple #[.string ⟨(Lib.itoa (sgn (Dx.madeB (c :: t)) (Dx.madeN (c :: t) m))).toArray⟩, .bool fit]), Eqv (.tuple #[.string ⟨(Lib.itoa (sgn (Dx.madeB (c :: t)) (Dx.madeN (c :: t) m))).toArray⟩, .bool fit]), Eqv (.string ⟨(Lib.itoa (sgn (Dx.madeB (c :: t)) (Dx.madeN (c :: t) m))).toArray⟩), Eqv (.bool fit), Eqv (.string ⟨(Lib.itoa (sgn (Dx.madeB (c :: t)) (Dx.madeN (c :: t) m))).toArray⟩), Eqv (.bool fit)] 16 43 (by kernel_rfl) rfl rfl (by kernel_rfl) ?_ ?_ ?_
          · simp only [AllS]
            exact ⟨stab_eqv _, stab_eqv _, stab_eqv _, stab_eqv _, stab_eqv _, stab_eqv _, stab_eqv _, stab_eqv _, stab_eqv _, stab_eqv _, stab_eqv _, stab_eqv _, stab_eqv _, stab_eqv _, stab_eqv _, stab_eqv _, trivial⟩
          · simp only [UsersG, List.take, List.length]
            refine ⟨?_, ?_, ?_, ?_, ?_, ?_, ?_, ?_, ?_, ?_, ?_, ?_, ?_, ?_, ?_, ?_, trivial⟩
            all_goals (intro vs w2 hb2 hd; simp only [putD, Act.put, List.nil_append, List.cons_append, List.setIfInBounds_toArray, List.set_cons_succ, List.set_cons_zero, Nat.reduceAdd])
            · clear hd hN hX hB; go_wp2; exact ⟨Below.refl _ _, rfl⟩
            · have e := hd 0 rfl; change vs 0 = _ at e; clear hd hN hX hB; rw [e]; go_wp2; exact ⟨Below.refl _ _, rfl⟩
            · have e := hd 1 rfl; change vs 1 = _ at e; clear hd hN hX hB; rw [e]; go_wp2; exact ⟨Below.refl _ _, by first | rfl | simp [Eqv]⟩
            · have e := hd 2 rfl; change vs 2 = _ at e; clear hd hN hX hB; rw [e]; go_wp2; exact ⟨Below.refl _ _, rfl⟩
            · have e := hd 3 rfl; change vs 3 = _ at e; clear hd hN hX hB; rw [e]; go_wp2; exact ⟨Below.refl _ _, rfl⟩
            · have e := hd 3 rfl; change vs 3 = _ at e; have e' := hd 4 rfl; change vs 4 = _ at e'; clear hd hN hX; rw [e, e']; go_wp2; exact ⟨Below.refl _ _, rfl⟩
            · have e := hd 3 rfl; change vs 3 = _ at e; have e' := hd 5 rfl; change vs 5 = _ at e'; clear hd hN hX; rw [e, e']; go_wp2; exact ⟨Below.refl _ _, rfl⟩
            · have e := hd 3 rfl; change vs 3 = _ at e; have e' := hd 6 rfl; change vs 6 = _ at e'; clear hd hN hX; rw [e, e']; go_wp2; exact ⟨Below.refl _ _, by first | rfl | (rw [hB]; rfl)⟩
            · clear hd hN hX hB; go_wp2; exact ⟨Below.refl _ _, rfl⟩
            · have e := hd 8 rfl; change vs 8 = _ at e; clear hd hX; rw [e]
              have hC := hN w2 hb2
              go_wp2_with fail
              refine hC.mono ?_
              rintro _ _ ⟨rfl, rfl⟩
              clear hC hN
              go_wp2
              exact ⟨Below.refl _ _, rfl⟩
            · have e := hd 7 rfl; change vs 7 = _ at e; have e' := hd 9 rfl; change vs 9 = _ at e'; clear hd hN; rw [e, e']
              have hC := hX w2 hb2 _ rfl
              go_wp2_with fail
              refine hC.mono ?_
              rintro _ w9 ⟨rfl, hb9⟩
              clear hC hX hB
              go_wp2
              rfl
            · have e := hd 10 rfl; change vs 10 = _ at e; clear hd hN hX hB; rw [e]; go_wp2; exact ⟨Below.refl _ _, rfl⟩
            · have e := hd 11 rfl; change vs 11 = _ at e; clear hd hN hX hB; rw [e]; go_wp2; exact ⟨Below.refl _ _, rfl⟩
            · have e := hd 11 rfl; change vs 11 = _ at e; clear hd hN hX hB; rw [e]; go_wp2; exact ⟨Below.refl _ _, rfl⟩
            · have e := hd 12 rfl; change vs 12 = _ at e; clear hd hN hX hB; rw [e]; go_wp2; exact ⟨Below.refl _ _, rfl⟩
            · have e := hd 13 rfl; change vs 13 = _ at e; clear hd hN hX hB; rw [e]; go_wp2; exact ⟨Below.refl _ _, rfl⟩
          · clear hN hX
            intro vs wa hba hR2
            simp only [AllR, Eqv] at hR2
            obtain ⟨-, -, -, -, -, -, -, -, -, -, -, -, -, -, e14, e15, -⟩ := hR2
            simp only [List.drop, List.take, List.map, putD, Act.put, List.setIfInBounds_toArray, List.set_cons_succ, List.set_cons_zero, Nat.reduceAdd]
            rw [e14]
            go_wp2
            go_ret
            exact ⟨rfl, bCall hb hba⟩
      · have t0 : decide (r < s.length) = false := decide_eq_false (by omega)
        go_wp2
        clear t0 hR
        rcases hsc with ⟨rfl, hB⟩ | ⟨c, t, rfl, hB⟩
        · have hN := fun w2 (hb2 : Below wr.heap.size wr w2) => rtrim_any l A cap w2 ((hA0.below hb2).more hb2.size) hcap (by omega)
          rw [hT0.out] at hN
          refine wp_region_rglG [Eqv (.string ⟨([] : List UInt8).toArray⟩), Eqv (.int .i64 (0 : Nat)), Eqv (.bool false), Eqv (.bool false), Eqv undef, Eqv undef, Eqv undef, Eqv (.bool (Dx.madeB (([] : List UInt8)))), Eqv (.slice A l.length cap), Eqv (.slice A (Dx.grp (Dx.madeN (([] : List UInt8)) m)).length cap), Eqv (.tuple #[.string ⟨(Lib.itoa (sgn (Dx.madeB (([] : List UInt8))) (Dx.madeN (([] : List UInt8)) m))).toArray⟩, .bool fit]), Eqv (.tuple #[.string ⟨(Lib.itoa (sgn (Dx.madeB (([] : List UInt8))) (Dx.madeN (([] : List UInt8)) m))).toArray⟩, .bool fit]), Eqv (.string ⟨(Lib.itoa (sgn (Dx.madeB (([] : List UInt8))) (Dx.madeN (([] : List UInt8)) m))).toArray⟩), Eqv (.bool fit), Eqv (.string ⟨(Lib.itoa (sgn (Dx.madeB (([] : List UInt8))) (Dx.madeN (([] : List UInt8)) m))).toArray⟩), Eqv (.bool fit)] 16 43 (by kernel_rfl) rfl rfl (by kernel_rfl) ?_ ?_ ?_
          · simp only [AllS]
            exact ⟨stab_eqv _, stab_eqv _, stab_eqv _, stab_eqv _, stab_eqv _, stab_eqv _, stab_eqv _, stab_eqv _, stab_eqv _, stab_eqv _, stab_eqv _, stab_eqv _, stab_eqv _, stab_eqv _, stab_eqv _, stab_eqv _, trivial⟩
          · simp only [UsersG, List.take, List.length]
            refine ⟨?_, ?_, ?_, ?_, ?_, ?_, ?_, ?_, ?_, ?_, ?_, ?_, ?_, ?_, ?_, ?_, trivial⟩
            all_goals (intro vs w2 hb2 hd; simp only [putD, Act.put, List.nil_append, List.cons_append, List.setIfInBounds_toArray, List.set_cons_succ, List.set_cons_zero, Nat.reduceAdd])
            · clear hd hN hX hB; go_wp2; exact ⟨Below.refl _ _, rfl⟩
            · have e := hd 0 rfl; change vs 0 = _ at e; clear hd hN hX hB; rw [e]; go_wp2; exact ⟨Below.refl _ _, rfl⟩
            · have e := hd 1 rfl; change vs 1 = _ at e; clear hd hN hX hB; rw [e]; go_wp2; exact ⟨Below.refl _ _, by first | rfl | simp [Eqv]⟩
            · have e := hd 2 rfl; change vs 2 = _ at e; clear hd hN hX hB; rw [e]; go_wp2; exact ⟨Below.refl _ _, rfl⟩
            · have e := hd 3 rfl; change vs 3 = _ at e; clear hd hN hX hB; rw [e]; go_wp2; exact ⟨Below.refl _ _, rfl⟩
            · have e := hd 3 rfl; change vs 3 = _ at e; have e' := hd 4 rfl; change vs 4 = _ at e'; clear hd hN hX; rw [e, e']; go_wp2; exact ⟨Below.refl _ _, rfl⟩
            · have e := hd 3 rfl; change vs 3 = _ at e; have e' := hd 5 rfl; change vs 5 = _ at e'; clear hd hN hX; rw [e, e']; go_wp2; exact ⟨Below.refl _ _, rfl⟩
            · have e := hd 3 rfl; change vs 3 = _ at e; have e' := hd 6 rfl; change vs 6 = _ at e'; clear hd hN hX; rw [e, e']; go_wp2; exact ⟨Below.refl _ _, by first | rfl | (rw [hB]; rfl)⟩
            · clear hd hN hX hB; go_wp2; exact ⟨Below.refl _ _, rfl⟩
            · have e := hd 8 rfl; change vs 8 = _ at e; clear hd hX; rw [e]
              have hC := hN w2 hb2
              go_wp2_with fail
              refine hC.mono ?_
              rintro _ _ ⟨rfl, rfl⟩
              clear hC hN
              go_wp2
              exact ⟨Below.refl _ _, rfl⟩
            · have e := hd 7 rfl; change vs 7 = _ at e; have e' := hd 9 rfl; change vs 9 = _ at e'; clear hd hN; rw [e, e']
              have hC := hX w2 hb2 _ rfl
              go_wp2_with fail
              refine hC.mono ?_
              rintro _ w9 ⟨rfl, hb9⟩
              clear hC hX hB
              go_wp2
              rfl
            · have e := hd 10 rfl; change vs 10 = _ at e; clear hd hN hX hB; rw [e]; go_wp2; exact ⟨Below.refl _ _, rfl⟩
            · have e := hd 11 rfl; change vs 11 = _ at e; clear hd hN hX hB; rw [e]; go_wp2; exact ⟨Below.refl _ _, rfl⟩
            · have e := hd 11 rfl; change vs 11 = _ at e; clear hd hN hX hB; rw [e]; go_wp2; exact ⟨Below.refl _ _, rfl⟩
            · have e := hd 12 rfl; change vs 12 = _ at e; clear hd hN hX hB; rw [e]; go_wp2; exact ⟨Below.refl _ _, rfl⟩
            · have e := hd 13 rfl; change vs 13 = _ at e; clear hd hN hX hB; rw [e]; go_wp2; exact ⟨Below.refl _ _, rfl⟩
          · clear hN hX
            intro vs wa hba hR2
            simp only [AllR, Eqv] at hR2
            obtain ⟨-, -, -, -, -, -, -, -, -, -, -, -, -, -, e14, e15, -⟩ := hR2
            simp only [List.drop, List.take, List.map, putD, Act.put, List.setIfInBounds_toArray, List.set_cons_succ, List.set_cons_zero, Nat.reduceAdd]
            rw [e14]
            go_wp2
            go_ret
            exact ⟨rfl, bCall hb hba⟩
        · have hc8 : decide ((c.toNat : Int) ≥ 128) = decide (128 ≤ c.toNat) := decide_eq_decide.2 (by omega)
          have hN := fun w2 (hb2 : Below wr.heap.size wr w2) => rtrim_any l A cap w2 ((hA0.below hb2).more hb2.size) hcap (by omega)
          rw [hT0.out] at hN
          refine wp_region_rglG [Eqv (.string ⟨(c :: t).toArray⟩), Eqv (.int .i64 (t.length + 1 : Nat)), Eqv (.bool true), Eqv (.bool true), Eqv (.string ⟨(c :: t).toArray⟩), Eqv (.int .u8 (c.toNat : Nat)), Eqv (.bool (decide (128 ≤ c.toNat))), Eqv (.bool (Dx.madeB (c :: t))), Eqv (.slice A l.length cap), Eqv (.slice A (Dx.grp (Dx.madeN (c :: t) m)).length cap), Eqv (.tuple #[.string ⟨(Lib.itoa (sgn (Dx.madeB (c :: t)) (Dx.madeN (c :: t) m))).toArray⟩, .bool fit]), Eqv (.tuple #[.string ⟨(Lib.itoa (sgn (Dx.madeB (c :: t)) (Dx.madeN (c :: t) m))).toArray⟩, .bool fit]), Eqv (.string ⟨(Lib.itoa (sgn (Dx.madeB (c :: t)) (Dx.madeN (c :: t) m))).toArray⟩), Eqv (.bool fit), Eqv (.string ⟨(Lib.itoa (sgn (Dx.madeB (c :: t)) (Dx.madeN (c :: t) m))).toArray⟩), Eqv (.bool fit)] 16 43 (by kernel_rfl) rfl rfl (by kernel_rfl) ?_ ?_ ?_
          · simp only [AllS]
            exact ⟨stab_eqv _, stab_eqv _, stab_eqv _, stab_eqv _, stab_eqv _, stab_eqv _, stab_eqv _, stab_eqv _, stab_eqv _, stab_eqv _, stab_eqv _, stab_eqv _, stab_eqv _, stab_eqv _, stab_eqv _, stab_eqv _, trivial⟩
          · simp only [UsersG, List.take, List.length]
            refine ⟨?_, ?_, ?_, ?_, ?_, ?_, ?_, ?_, ?_, ?_, ?_, ?_, ?_, ?_, ?_, ?_, trivial⟩
            all_goals (intro vs w2 hb2 hd; simp only [putD, Act.put, List.nil_append, List.cons_append, List.setIfInBounds_toArray, List.set_cons_succ, List.set_cons_zero, Nat.reduceAdd])
            · clear hd hN hX hB; go_wp2; exact ⟨Below.refl _ _, rfl⟩
            · have e := hd 0 rfl; change vs 0 = _ at e; clear hd hN hX hB; rw [e]; go_wp2; exact ⟨Below.refl _ _, rfl⟩
            · have e := hd 1 rfl; change vs 1 = _ at e; clear hd hN hX hB; rw [e]; go_wp2; exact ⟨Below.refl _ _, by first | rfl | simp [Eqv]⟩
            · have e := hd 2 rfl; change vs 2 = _ at e; clear hd hN hX hB; rw [e]; go_wp2; exact ⟨Below.refl _ _, rfl⟩
            · have e := hd 3 rfl; change vs 3 = _ at e; clear hd hN hX hB; rw [e]; go_wp2; exact ⟨Below.refl _ _, rfl⟩
            · have e := hd 3 rfl; change vs 3 = _ at e; have e' := hd 4 rfl; change vs 4 = _ at e'; clear hd hN hX; rw [e, e']; go_wp2; exact ⟨Below.refl _ _, rfl⟩
            · have e := hd 3 rfl; change vs 3 = _ at e; have e' := hd 5 rfl; change vs 5 = _ at e'; clear hd hN hX; rw [e, e']; go_wp2; exact ⟨Below.refl _ _, rfl⟩
            · have e := hd 3 rfl; change vs 3 = _ at e; have e' := hd 6 rfl; change vs 6 = _ at e'; clear hd hN hX; rw [e, e']; go_wp2; exact ⟨Below.refl _ _, by first | rfl | (rw [hB]; rfl)⟩
            · clear hd hN hX hB; go_wp2; exact ⟨Below.refl _ _, rfl⟩
            · have e := hd 8 rfl; change vs 8 = _ at e; clear hd hX; rw [e]
              have hC := hN w2 hb2
              go_wp2_with fail
              refine hC.mono ?_
              rintro _ _ ⟨rfl, rfl⟩
              clear hC hN
              go_wp2
              exact ⟨Below.refl _ _, rfl⟩
            · have e := hd 7 rfl; change vs 7 = _ at e; have e' := hd 9 rfl; change vs 9 = _ at e'; clear hd hN; rw [e, e']
              have hC := hX w2 hb2 _ rfl
              go_wp2_with fail
              refine hC.mono ?_
              rintro _ w9 ⟨rfl, hb9⟩
              clear hC hX hB
              go_wp2
              rfl
            · have e := hd 10 rfl; change vs 10 = _ at e; clear hd hN hX hB; rw [e]; go_wp2; exact ⟨Below.refl _ _, rfl⟩
            · have e := hd 11 rfl; change vs 11 = _ at e; clear hd hN hX hB; rw [e]; go_wp2; exact ⟨Below.refl _ _, rfl⟩
            · have e := hd 11 rfl; change vs 11 = _ at e; clear hd hN hX hB; rw [e]; go_wp2; exact ⟨Below.refl _ _, rfl⟩
            · have e := hd 12 rfl; change vs 12 = _ at e; clear hd hN hX hB; rw [e]; go_wp2; exact ⟨Below.refl _ _, rfl⟩
            · have e := hd 13 rfl; change vs 13 = _ at e; clear hd hN hX hB; rw [e]; go_wp2; exact ⟨Below.refl _ _, rfl⟩
          · clear hN hX
            intro vs wa hba hR2
            simp only [AllR, Eqv] at hR2
            obtain ⟨-, -, -, -, -, -, -, -, -, -, -, -, -, -, e14, e15, -⟩ := hR2
            simp only [List.drop, List.take, List.map, putD, Act.put, List.setIfInBounds_toArray, List.set_cons_succ, List.set_cons_zero, Nat.reduceAdd]
            rw [e14]
            go_wp2
            go_ret
            exact ⟨rfl, bCall hb hba⟩
end Go.Proofs.YtllnepdighhkdaaGreatDoor
namespace Go.Proofs.YtllnepdighhkdaaGreatDoor
set_option linter.unusedVariables false
set_option linter.unusedSimpArgs false
open Go.RowKit Go.Shelf
theorem fits_of {z : Int} (h : Lib.nDigits z.natAbs ≤ 200) : Ig.fits z := (Ig.fits_iff z).2 h
section
variable (w : World)
theorem sane1 (hE : Env w) : Calls Tryz.prog 16 #[.string ⟨#[57, 57, 57]⟩, .string ⟨#[49]⟩] w fun e w' => e = .returned (.tuple #[.string ⟨#[49, 48, 48, 48]⟩, .int .i64 0]) ∧ Below w.heap.size w w' := by
  have h := Add_any 999 1 w (fits_of (by decide +kernel)) (fits_of (by decide +kernel)) hE
  rw [show Lib.itoa 999 = [57, 57, 57] by decide +kernel, show Lib.itoa 1 = [49] by decide +kernel, show Ig.resS (999 + 1) = [49, 48, 48, 48] by decide +kernel, show Ig.resE (999 + 1) = 0 by decide +kernel] at h
  exact h
theorem sane2 (hE : Env w) : Calls Tryz.prog 18 #[.string ⟨#[49]⟩, .string ⟨#[49, 48, 48, 48]⟩] w fun e w' => e = .returned (.tuple #[.string ⟨#[45, 57, 57, 57]⟩, .int .i64 0]) ∧ Below w.heap.size w w' := by
  have h := Sub_any 1 1000 w (fits_of (by decide +kernel)) (fits_of (by decide +kernel)) hE
  rw [show Lib.itoa 1000 = [49, 48, 48, 48] by decide +kernel, show Lib.itoa 1 = [49] by decide +kernel, show Ig.resS (1 - 1000) = [45, 57, 57, 57] by decide +kernel, show Ig.resE (1 - 1000) = 0 by decide +kernel] at h
  exact h
theorem sane3 (hE : Env w) : Calls Tryz.prog 20 #[.string ⟨#[45, 49, 50]⟩, .string ⟨#[49, 50]⟩] w fun e w' => e = .returned (.tuple #[.string ⟨#[45, 49, 52, 52]⟩, .int .i64 0]) ∧ Below w.heap.size w w' := by
  have h := Mul_any (-12) 12 w (fits_of (by decide +kernel)) (fits_of (by decide +kernel)) hE
  rw [show Lib.itoa (-12) = [45, 49, 50] by decide +kernel, show Lib.itoa 12 = [49, 50] by decide +kernel, show Ig.resS (-12 * 12) = [45, 49, 52, 52] by decide +kernel, show Ig.resE (-12 * 12) = 0 by decide +kernel] at h
  exact h
theorem sane4 (hE : Env w) : Calls Tryz.prog 22 #[.string ⟨#[45, 55]⟩, .string ⟨#[50]⟩] w fun e w' => e = .returned (.tuple #[.string ⟨#[45, 52]⟩, .string ⟨#[49]⟩, .int .i64 0]) ∧ Below w.heap.size w w' := by
  have h := Div_any (-7) 2 w (fits_of (by decide +kernel)) (fits_of (by decide +kernel)) (by decide) hE
  rw [show Lib.itoa (-7) = [45, 55] by decide +kernel, show Lib.itoa 2 = [50] by decide +kernel, show Lib.itoa (-7 / 2) = [45, 52] by decide +kernel, show Lib.itoa (-7 % 2) = [49] by decide +kernel] at h
  exact h
theorem sane5 (hE : Env w) : Calls Tryz.prog 22 #[.string ⟨#[45, 55]⟩, .string ⟨#[45, 50]⟩] w fun e w' => e = .returned (.tuple #[.string ⟨#[52]⟩, .string ⟨#[49]⟩, .int .i64 0]) ∧ Below w.heap.size w w' := by
  have h := Div_any (-7) (-2) w (fits_of (by decide +kernel)) (fits_of (by decide +kernel)) (by decide) hE
  rw [show Lib.itoa (-7) = [45, 55] by decide +kernel, show Lib.itoa (-2) = [45, 50] by decide +kernel, show Lib.itoa (-7 / -2) = [52] by decide +kernel, show Lib.itoa (-7 % -2) = [49] by decide +kernel] at h
  exact h
theorem sane6 (hE : Env w) : Calls Tryz.prog 24 #[.string ⟨#[49, 50]⟩, .string ⟨#[45, 49, 56]⟩] w fun e w' => e = .returned (.tuple #[.string ⟨#[54]⟩, .int .i64 0]) ∧ Below w.heap.size w w' := by
  have h := Gcd_any 12 (-18) w (fits_of (by decide +kernel)) (fits_of (by decide +kernel)) hE
  rw [show Lib.itoa 12 = [49, 50] by decide +kernel, show Lib.itoa (-18) = [45, 49, 56] by decide +kernel, show Lib.itoa ((Nat.gcd (12 : Int).natAbs (-18 : Int).natAbs : Nat) : Int) = [54] by decide +kernel] at h
  exact h
theorem root_99 {s : Nat} (h1 : s * s ≤ 99) (h2 : 99 < (s + 1) * (s + 1)) : s = 9 := by
  rcases Nat.lt_or_ge s 10 with h | h
  · rcases Nat.lt_or_ge s 9 with h' | h'
    · have := Nat.mul_le_mul (show s + 1 ≤ 9 by omega) (show s + 1 ≤ 9 by omega)
      omega
    · omega
  · have := Nat.mul_le_mul h h
    omega
theorem sane7 (hE : Env w) : Calls Tryz.prog 26 #[.string ⟨#[57, 57]⟩] w fun e w' => e = .returned (.tuple #[.string ⟨#[57]⟩, .int .i64 0]) ∧ Below w.heap.size w w' := by
  have h := Root_any 99 w (fits_of (by decide +kernel)) (by decide) hE
  rw [show Lib.itoa 99 = [57, 57] by decide +kernel] at h
  refine h.mono ?_
  rintro e w' ⟨s, rfl, h1, h2, hb⟩
  obtain rfl := root_99 h1 h2
  exact ⟨by rw [show Lib.itoa ((9 : Nat) : Int) = [57] by decide +kernel], hb⟩
theorem sane8 : Calls Tryz.prog 26 #[.string ⟨#[45, 49]⟩] w fun e w' => e = .returned (.tuple #[.string ⟨#[]⟩, .int .i64 30]) ∧ Below w.heap.size w w' := by
  have h := Root_neg (-1) w (fits_of (by decide +kernel)) (by decide)
  rw [show Lib.itoa (-1) = [45, 49] by decide +kernel] at h
  exact h
theorem sane9 : Calls Tryz.prog 16 #[.string ⟨#[48, 48, 55]⟩, .string ⟨#[49]⟩] w fun e w' => e = .returned (.tuple #[.string ⟨#[]⟩, .int .i64 30]) ∧ Below w.heap.size w w' :=
  Add_not [48, 48, 55] [49] w (by decide) (by decide) (.inl (by decide +kernel))
theorem sane10 : Calls Tryz.prog 30 #[.string ⟨#[45, 55]⟩] w fun e w' => e = .returned (.bool true) ∧ Below w.heap.size w w' := by
  have h := Valid_any [45, 55] (by decide) w
  rw [show Ig.validS [45, 55] = true by decide +kernel] at h
  exact h
theorem sane11 : Calls Tryz.prog 30 #[.string ⟨#[45, 48]⟩] w fun e w' => e = .returned (.bool false) ∧ Below w.heap.size w w' := by
  have h := Valid_any [45, 48] (by decide) w
  rw [show Ig.validS [45, 48] = false by decide +kernel] at h
  exact h
theorem sane12 : Calls Tryz.prog 30 #[.string ⟨#[]⟩] w fun e w' => e = .returned (.bool false) ∧ Below w.heap.size w w' := by
  have h := Valid_any [] (by decide) w
  rw [show Ig.validS [] = false by decide +kernel] at h
  exact h
theorem sane13 : Calls Tryz.prog 32 #[.string ⟨#[45, 56]⟩, .string ⟨#[45, 55]⟩] w fun e w' => e = .returned (.int .i64 (-1)) ∧ Below w.heap.size w w' := by
  have h := Compare_any (-8) (-7) w (fits_of (by decide +kernel)) (fits_of (by decide +kernel))
  rw [show Lib.itoa (-8) = [45, 56] by decide +kernel, show Lib.itoa (-7) = [45, 55] by decide +kernel, show cmpZ (-8) (-7) = -1 by decide +kernel] at h
  exact h
end
set_option maxRecDepth 100000 in
set_option maxHeartbeats 8000000 in
theorem sane_any (w : World) (hE : Env w) : Calls Tryz.prog 13 #[] w fun e w' => e = .returned (.bool true) ∧ Below w.heap.size w w' := by
  go_enter Tryz.func13, Tryz.ntmps13
  go_wp2_with fail
  refine (sane1 _ hE).mono ?_
  rintro _ w1 ⟨rfl, hb⟩
  replace hE := hE.below hb
  go_wp2_with fail
  refine (sane2 _ hE).mono ?_
  rintro _ w2 ⟨rfl, hb1⟩
  replace hE := hE.below hb1
  replace hb := bCall hb hb1
  go_wp2_with fail
  refine (sane3 _ hE).mono ?_
  rintro _ w3 ⟨rfl, hb1⟩
  replace hE := hE.below hb1
  replace hb := bCall hb hb1
  go_wp2_with fail
  refine (sane4 _ hE).mono ?_
  rintro _ w4 ⟨rfl, hb1⟩
  replace hE := hE.below hb1
  replace hb := bCall hb hb1
  go_wp2_with fail
  refine (sane5 _ hE).mono ?_
  rintro _ w5 ⟨rfl, hb1⟩
  replace hE := hE.below hb1
  replace hb := bCall hb hb1
  go_wp2_with fail
  refine (sane6 _ hE).mono ?_
  rintro _ w6 ⟨rfl, hb1⟩
  replace hE := hE.below hb1
  replace hb := bCall hb hb1
  go_wp2_with fail
  refine (sane7 _ hE).mono ?_
  rintro _ w7 ⟨rfl, hb1⟩
  replace hE := hE.below hb1
  replace hb := bCall hb hb1
  go_wp2_with fail
  refine (sane8 _).mono ?_
  rintro _ w8 ⟨rfl, hb1⟩
  replace hb := bCall hb hb1
  go_wp2_with fail
  refine (sane9 _).mono ?_
  rintro _ w9 ⟨rfl, hb1⟩
  replace hb := bCall hb hb1
  go_wp2_with fail
  refine (sane10 _).mono ?_
  rintro _ w10 ⟨rfl, hb1⟩
  replace hb := bCall hb hb1
  go_wp2_with fail
  refine (sane11 _).mono ?_
  rintro _ w11 ⟨rfl, hb1⟩
  replace hb := bCall hb hb1
  go_wp2_with fail
  refine (sane12 _).mono ?_
  rintro _ w12 ⟨rfl, hb1⟩
  replace hb := bCall hb hb1
  go_wp2_with fail
  refine (sane13 _).mono ?_
  rintro _ w13 ⟨rfl, hb1⟩
  replace hb := bCall hb hb1
  go_wp2
  go_ret
  exact ⟨rfl, hb⟩
end Go.Proofs.YtllnepdighhkdaaGreatDoor
namespace Ig
/-- a number of at most k digits -/
def Sz (k : Nat) (z : Int) : Prop := z.natAbs < 10 ^ k
theorem Sz.mono {j k : Nat} {z : Int} (h : Sz j z) (hk : j ≤ k) : Sz k z := Nat.lt_of_lt_of_le h (Nat.pow_le_pow_right (by decide) hk)
theorem Sz.fits {k : Nat} {z : Int} (h : Sz k z) (hk : k ≤ 200) : Ig.fits z := h.mono hk
theorem Sz.add {k : Nat} {x y : Int} (hx : Sz k x) (hy : Sz k y) : Sz (k + 1) (x + y) := by
  unfold Sz at *
  rw [Nat.pow_succ]
  omega
theorem Sz.neg {k : Nat} {x : Int} (hx : Sz k x) : Sz k (-x) := by unfold Sz at *; omega
theorem Sz.sub {k : Nat} {x y : Int} (hx : Sz k x) (hy : Sz k y) : Sz (k + 1) (x - y) := by
  rw [Int.sub_eq_add_neg]; exact hx.add hy.neg
theorem Sz.mul {j k : Nat} {x y : Int} (hx : Sz j x) (hy : Sz k y) : Sz (j + k) (x * y) := by
  unfold Sz at *
  rw [Int.natAbs_mul, Nat.pow_add]
  exact Nat.mul_lt_mul'' hx hy
theorem sz_zero (k : Nat) : Sz k 0 := Nat.pow_pos (by decide)
theorem sz_one : Sz 1 1 := by unfold Sz; decide
theorem sz_abs {k : Nat} {z : Int} (h : Sz k z) : Sz k (z.natAbs : Int) := by unfold Sz at *; rw [Int.natAbs_natCast]; exact h
end Ig
namespace Go.Proofs.YtllnepdighhkdaaGreatDoor
set_option linter.unusedVariables false
set_option linter.unusedSimpArgs false
open Go.RowKit Go.Shelf
theorem itoa_one : Lib.itoa 1 = [49] := by decide +kernel
theorem made_sz (s : List UInt8) (m : Nat) : Ig.Sz m (sgn (Dx.madeB s) (Dx.madeN s m)) := by
  unfold Ig.Sz
  rw [sgn_abs]
  exact Dx.madeN_lt s m
section
variable (w : World)
theorem Add_ok (x y z : Int) (h : x + y = z) {j k l : Nat} (hx : Ig.Sz j x) (hy : Ig.Sz k y) (hz : Ig.Sz l z) (hj : j ≤ 200) (hk : k ≤ 200) (hl : l ≤ 200) (hE : Env w) :
    Calls Tryz.prog 16 #[.string ⟨(Lib.itoa x).toArray⟩, .string ⟨(Lib.itoa y).toArray⟩] w fun e w' => e = .returned (.tuple #[.string ⟨(Lib.itoa z).toArray⟩, .int .i64 0]) ∧ Below w.heap.size w w' := by
  have h1 := Add_any x y w (hx.fits hj) (hy.fits hk) hE
  rw [h, Ig.resS_fits (hz.fits hl), Ig.resE_fits (hz.fits hl)] at h1
  exact h1
theorem Sub_ok (x y z : Int) (h : x - y = z) {j k l : Nat} (hx : Ig.Sz j x) (hy : Ig.Sz k y) (hz : Ig.Sz l z) (hj : j ≤ 200) (hk : k ≤ 200) (hl : l ≤ 200) (hE : Env w) :
    Calls Tryz.prog 18 #[.string ⟨(Lib.itoa x).toArray⟩, .string ⟨(Lib.itoa y).toArray⟩] w fun e w' => e = .returned (.tuple #[.string ⟨(Lib.itoa z).toArray⟩, .int .i64 0]) ∧ Below w.heap.size w w' := by
  have h1 := Sub_any x y w (hx.fits hj) (hy.fits hk) hE
  rw [h, Ig.resS_fits (hz.fits hl), Ig.resE_fits (hz.fits hl)] at h1
  exact h1
theorem Mul_ok (x y z : Int) (h : x * y = z) {j k l : Nat} (hx : Ig.Sz j x) (hy : Ig.Sz k y) (hz : Ig.Sz l z) (hj : j ≤ 200) (hk : k ≤ 200) (hl : l ≤ 200) (hE : Env w) :
    Calls Tryz.prog 20 #[.string ⟨(Lib.itoa x).toArray⟩, .string ⟨(Lib.itoa y).toArray⟩] w fun e w' => e = .returned (.tuple #[.string ⟨(Lib.itoa z).toArray⟩, .int .i64 0]) ∧ Below w.heap.size w w' := by
  have h1 := Mul_any x y w (hx.fits hj) (hy.fits hk) hE
  rw [h, Ig.resS_fits (hz.fits hl), Ig.resE_fits (hz.fits hl)] at h1
  exact h1
theorem Cmp_ok (x y c : Int) (h : cmpZ x y = c) {j k : Nat} (hx : Ig.Sz j x) (hy : Ig.Sz k y) (hj : j ≤ 200) (hk : k ≤ 200) :
    Calls Tryz.prog 32 #[.string ⟨(Lib.itoa x).toArray⟩, .string ⟨(Lib.itoa y).toArray⟩] w fun e w' => e = .returned (.int .i64 c) ∧ Below w.heap.size w w' := by
  rw [← h]
  exact Compare_any x y w (hx.fits hj) (hy.fits hk)
end
end Go.Proofs.YtllnepdighhkdaaGreatDoor
