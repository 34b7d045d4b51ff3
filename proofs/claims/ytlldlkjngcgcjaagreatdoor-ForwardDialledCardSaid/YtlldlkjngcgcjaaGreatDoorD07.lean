/- dialtoneref13.Give, Take: some map of at most 40 blocks. dialtoneref13.Made: some map of at most 40 blocks. -/
import Derived.Test.YtlldlkjngcgcjaaGreatDoorD06
import Derived.Test.YtlldlkjngcgcjaaGreatDoorQ07
namespace Go.Proofs.YtlldlkjngcgcjaaGreatDoor
set_option linter.unusedVariables false
set_option linter.unusedSimpArgs false
open Go.RowKit Go.Shelf
attribute [local go_sem] Oper.semAt_some
set_option maxRecDepth 100000 in
set_option maxHeartbeats 4000000 in
theorem r13take_any (f t : Int) (v : Value) (w : World) (hv : BlZ 40 v w) :
    Calls Tryz.prog 29 #[v, .agg #[.int .i64 f, .int .i64 t]] w fun e w' => ∃ v' z, e = .returned (.tuple #[v', .int .i64 z]) ∧ Below w.heap.size w w' ∧ BlZ 40 v' w' := by
  obtain ⟨la, A, ca, rfl, hA, hna, hca, hla⟩ := hv
  have B := Bx.mk w 72 #[.int .i64 f, .int .i64 t]
  have hb := bNx w (.cells #[.int .i64 f, .int .i64 t] 72)
  replace hA := hA.callx hb
  go_enter Tryz.func29, Tryz.ntmps29
  go_upto_region 1 with fail
  generalize w.alloc (.cells #[.int .i64 f, .int .i64 t] 72) = w0 at *
  have hV := r13Valid_any la A ca _ w0 hA rfl hna (by omega)
  go_wp2_with fail
  refine hV.mono ?_
  rintro _ w1 ⟨⟨r, rfl, hr⟩, hb1⟩
  replace hb := bCall hb hb1
  replace hA := hA.callx hb1
  replace B := B.call hb1
  clear hV hb1 hr
  have c0 := B.cell 0 rfl
  have c1 := B.cell 1 rfl
  cases r
  · go_wp2
    exact bodyPost_ret (results_tmp2 rfl _ _ _) rfl ⟨_, _, rfl, hb, blZ_nil 40 _⟩
  · go_wp2_with fail
    refine (r13Range_any f t _).mono ?_
    rintro _ w2 ⟨rfl, hb1⟩
    replace hb := bCall hb hb1
    replace hA := hA.callx hb1
    replace B := B.call hb1
    clear hb1 c0 c1
    have c0 := B.cell 0 rfl
    have c1 := B.cell 1 rfl
    generalize rgB f t = r at *
    cases r
    · go_wp2
      exact bodyPost_ret (results_tmp2 rfl _ _ _) rfl ⟨_, _, rfl, hb, blZ_nil 40 _⟩
    · go_wp2_with fail
      refine (r13one_any f t 0 _).mono ?_
      rintro _ w3 ⟨v3, rfl, hb1, hz⟩
      replace hb := bCall hb hb1
      replace hA := hA.callx hb1
      clear hb1 c0 c1 B
      obtain ⟨lb, B2, cb, rfl, hB, hnb, hcb, hlb⟩ := hz
      go_wp2_with fail
      refine (r13combine_any la lb A B2 ca cb _ 1 (-1) (-1) w3 hA hB rfl hna hnb hla (by omega)).mono ?_
      rintro _ w4 ⟨v4, z4, rfl, hb1, hz⟩
      replace hb := bCall hb hb1
      clear hA hB
      go_wp2
      exact bodyPost_ret (results_tmp2 rfl _ _ _) rfl ⟨_, _, rfl, hb, hz⟩
set_option maxRecDepth 100000 in
set_option maxHeartbeats 4000000 in
theorem r13give_any (f t c : Int) (v : Value) (w : World) (hv : BlZ 40 v w) :
    Calls Tryz.prog 28 #[v, .agg #[.int .i64 f, .int .i64 t], .int .i64 c] w fun e w' => ∃ v' z, e = .returned (.tuple #[v', .int .i64 z]) ∧ Below w.heap.size w w' ∧ BlZ 40 v' w' := by
  obtain ⟨la, A, ca, rfl, hA, hna, hca, hla⟩ := hv
  have B := Bx.mk w 72 #[.int .i64 f, .int .i64 t]
  have hb := bNx w (.cells #[.int .i64 f, .int .i64 t] 72)
  replace hA := hA.callx hb
  go_enter Tryz.func28, Tryz.ntmps28
  go_upto_region 1 with fail
  generalize w.alloc (.cells #[.int .i64 f, .int .i64 t] 72) = w0 at *
  have hV := r13Valid_any la A ca _ w0 hA rfl hna (by omega)
  go_wp2_with fail
  refine hV.mono ?_
  rintro _ w1 ⟨⟨r, rfl, hr⟩, hb1⟩
  replace hb := bCall hb hb1
  replace hA := hA.callx hb1
  replace B := B.call hb1
  clear hV hb1 hr
  have c0 := B.cell 0 rfl
  have c1 := B.cell 1 rfl
  cases r
  · go_wp2
    exact bodyPost_ret (results_tmp2 rfl _ _ _) rfl ⟨_, _, rfl, hb, blZ_nil 40 _⟩
  · go_wp2_with fail
    refine (r13Range_any f t _).mono ?_
    rintro _ w2 ⟨rfl, hb1⟩
    replace hb := bCall hb hb1
    replace hA := hA.callx hb1
    replace B := B.call hb1
    clear hb1 c0 c1
    have c0 := B.cell 0 rfl
    have c1 := B.cell 1 rfl
    generalize rgB f t = r at *
    cases r
    · go_wp2
      exact bodyPost_ret (results_tmp2 rfl _ _ _) rfl ⟨_, _, rfl, hb, blZ_nil 40 _⟩
    · go_wp2_with fail
      refine (r13carrier_any c _).mono ?_
      rintro _ _ ⟨rfl, rfl⟩
      generalize caB c = r at *
      cases r
      · go_wp2
        exact bodyPost_ret (results_tmp2 rfl _ _ _) rfl ⟨_, _, rfl, hb, blZ_nil 40 _⟩
      · go_wp2_with fail
        refine (r13one_any f t c _).mono ?_
        rintro _ w3 ⟨v3, rfl, hb1, hz⟩
        replace hb := bCall hb hb1
        replace hA := hA.callx hb1
        clear hb1 c0 c1 B
        obtain ⟨lb, B2, cb, rfl, hB, hnb, hcb, hlb⟩ := hz
        go_wp2_with fail
        refine (r13combine_any la lb A B2 ca cb _ 0 (-1) (-1) w3 hA hB rfl hna hnb hla (by omega)).mono ?_
        rintro _ w4 ⟨v4, z4, rfl, hb1, hz⟩
        replace hb := bCall hb hb1
        clear hA hB
        go_wp2
        exact bodyPost_ret (results_tmp2 rfl _ _ _) rfl ⟨_, _, rfl, hb, hz⟩
end Go.Proofs.YtlldlkjngcgcjaaGreatDoor
namespace Go.Proofs.YtlldlkjngcgcjaaGreatDoor
set_option linter.unusedVariables false
set_option linter.unusedSimpArgs false
open Go.RowKit Go.Shelf
attribute [local go_sem] Oper.semAt_some
set_option maxRecDepth 100000 in
set_option maxHeartbeats 4000000 in
theorem r13Made_any (xs : List Pl.T3) (A : Option Addr) (cap : Nat) (w : World) (hA : At 3 t3C w w.heap.size A xs) (hn : xs.length ≤ cap) (hlen : xs.length ≤ maxLen) (hx : ∀ t ∈ xs, I6 t.a ∧ I6 t.b ∧ I6 t.c) :
    Calls Tryz.prog 6 #[.slice A xs.length cap] w fun e w' => ∃ v, e = .returned v ∧ Below w.heap.size w w' ∧ BlZ 40 v w' := by
  go_enter Tryz.func6, Tryz.ntmps6
  go_wp2
  go_loopw [3, 4] (fun s3 s4 wr => ∃ (k : Nat), k ≤ xs.length ∧ k ≤ 12 ∧ s4 = .int .i64 k ∧ BlZ 40 s3 wr ∧ Below w.heap.size w wr) (fun _ s4 _ => 12 - (intOf s4).toNat)
  case atStart => exact ⟨0, Nat.zero_le _, Nat.zero_le _, rfl, blZ_nil 40 _, bStart w⟩
  case round =>
    obtain ⟨k, hk, hk6, rfl, hz, hb⟩ := hrel
    by_cases hlt : k < xs.length
    · by_cases hl6 : k < 12
      · have t6 : decide ((k : Int) < 12) = true := by simp; omega
        obtain ⟨b9, off, rfl, hb9, hcell⟩ := hA.run (Nat.le_refl _) hlt
        have hy := hx _ (List.getElem_mem hlt)
        have hcl := fun W (hW : Below w.heap.size w W) => hcell W hW
        clear hcell hA hx
        generalize xs[k] = x at *
        obtain ⟨xa, xb, xc⟩ := x
        dsimp only at hy
        obtain ⟨h1, h2, h3⟩ := hy
        have hP := fun w0 => r13Piece_any xa xb h1 h2 _ w0 rfl
        have hp := fun w0 => r13pick_any xc 5 (by decide) h3 w0
        obtain ⟨p0, p9⟩ := pick_in xc 5 (by decide)
        generalize Tw.pick xc 5 = p at *
        go_upto_region 5 with fail
        refine wp_region_rgl [Eqv (.slice (some ⟨b9, off, none⟩) xs.length cap), Eqv (.int .i64 k), Eqv (.pointer (some ⟨b9, off + k * 3, none⟩)), Eqv (.pointer (some ⟨b9, off + k * 3, none⟩)), Eqv (.int .i64 xa), Eqv (.slice (some ⟨b9, off, none⟩) xs.length cap), Eqv (.int .i64 k), Eqv (.pointer (some ⟨b9, off + k * 3, none⟩)), Eqv (.pointer (some ⟨b9, off + k * 3 + 1, none⟩)), Eqv (.int .i64 xb), (fun v W => ∃ f t : Int, v = .agg #[.int .i64 f, .int .i64 t]), Fresh wr.heap.size 72 #[.int .i64 0, .int .i64 0]] 12 51 (by kernel_rfl) rfl rfl (by kernel_rfl) ?_ ?_ ?_
        · simp only [AllS]
          exact ⟨stab_eqv _, stab_eqv _, stab_eqv _, stab_eqv _, stab_eqv _, stab_eqv _, stab_eqv _, stab_eqv _, stab_eqv _, stab_eqv _, (fun v w w' h hb => h), stab_fresh _ _ _, trivial⟩
        · simp only [Users, List.take, List.length]
          refine ⟨?_, ?_, ?_, ?_, ?_, ?_, ?_, ?_, ?_, ?_, ?_, ?_, trivial⟩
          all_goals (intro vs w2 hb2 hd; simp only [putD, Act.put, List.nil_append, List.cons_append, List.setIfInBounds_toArray, List.set_cons_succ, List.set_cons_zero, Nat.reduceAdd])
          · clear hd hz hcl hP hp; go_wp2; first | exact ⟨Below.refl _ _, rfl⟩ | exact ⟨Below.refl _ _, by simp [Eqv]⟩ | (simp [Eqv])
          · clear hd hz hcl hP hp; go_wp2; first | exact ⟨Below.refl _ _, rfl⟩ | exact ⟨Below.refl _ _, by simp [Eqv]⟩ | (simp [Eqv])
          · have e0 := hd 0 rfl; change vs 0 = _ at e0; have e1 := hd 1 rfl; change vs 1 = _ at e1; clear hd hz hcl hP hp; rw [e0, e1]; go_wp2; first | exact ⟨Below.refl _ _, rfl⟩ | exact ⟨Below.refl _ _, by simp [Eqv]⟩ | (simp [Eqv])
          · have e0 := hd 2 rfl; change vs 2 = _ at e0; clear hd hz hcl hP hp; rw [e0]; go_wp2; first | exact ⟨Below.refl _ _, rfl⟩ | exact ⟨Below.refl _ _, by simp [Eqv]⟩ | (simp [Eqv])
          · have e0 := hd 3 rfl; change vs 3 = _ at e0; have hcl' := hcl w2 (hb.trans (hb2.mono hb.size)); have x0 := hcl' 0 _ rfl; have x1 := hcl' 1 _ rfl; simp only [Nat.add_zero] at x0; clear hcl'; clear hd hz hcl hP hp; rw [e0]; go_wp2; first | exact ⟨Below.refl _ _, rfl⟩ | exact ⟨Below.refl _ _, by simp [Eqv]⟩ | (simp [Eqv])
          · clear hd hz hcl hP hp; go_wp2; first | exact ⟨Below.refl _ _, rfl⟩ | exact ⟨Below.refl _ _, by simp [Eqv]⟩ | (simp [Eqv])
          · clear hd hz hcl hP hp; go_wp2; first | exact ⟨Below.refl _ _, rfl⟩ | exact ⟨Below.refl _ _, by simp [Eqv]⟩ | (simp [Eqv])
          · have e0 := hd 5 rfl; change vs 5 = _ at e0; have e1 := hd 6 rfl; change vs 6 = _ at e1; clear hd hz hcl hP hp; rw [e0, e1]; go_wp2; first | exact ⟨Below.refl _ _, rfl⟩ | exact ⟨Below.refl _ _, by simp [Eqv]⟩ | (simp [Eqv])
          · have e0 := hd 7 rfl; change vs 7 = _ at e0; clear hd hz hcl hP hp; rw [e0]; go_wp2; first | exact ⟨Below.refl _ _, rfl⟩ | exact ⟨Below.refl _ _, by simp [Eqv]⟩ | (simp [Eqv])
          · have e0 := hd 8 rfl; change vs 8 = _ at e0; have hcl' := hcl w2 (hb.trans (hb2.mono hb.size)); have x0 := hcl' 0 _ rfl; have x1 := hcl' 1 _ rfl; simp only [Nat.add_zero] at x0; clear hcl'; clear hd hz hcl hP hp; rw [e0]; go_wp2; first | exact ⟨Below.refl _ _, rfl⟩ | exact ⟨Below.refl _ _, by simp [Eqv]⟩ | (simp [Eqv])
          · have e0 : vs 4 = _ := hd 4 rfl
            have e1 : vs 9 = _ := hd 9 rfl
            have hC := hP w2
            clear hd hz hb hcl hP hp
            rw [e0, e1]
            go_wp2_with fail
            refine hC.mono ?_
            rintro _ w9 ⟨f, t, rfl, hb9⟩
            clear hC
            go_wp2
            all_goals first | exact ⟨hb9, f, t, rfl⟩ | exact ⟨f, t, rfl⟩ | trivial
          · have hsz := hb2.size
            clear hd hz hb hcl hP hp
            go_wp2
            exact ⟨bNew (Below.refl _ _) _, _, rfl, hsz, Bx.mk w2 _ _⟩
        · intro vs wa hba hR2
          simp only [AllR, Eqv] at hR2
          obtain ⟨-, -, -, -, -, -, -, -, -, -, e10, e11, -⟩ := hR2
          simp only [List.drop, List.take, List.map, putD, Act.put, List.setIfInBounds_toArray, List.set_cons_succ, List.set_cons_zero, Nat.reduceAdd]
          obtain ⟨f, t, e10⟩ := e10
          obtain ⟨g3, e11, hg3, hB3⟩ := e11
          rw [e10, e11]
          have f0 := hB3.frozen 0
          have f1 := hB3.frozen 1
          have u0 := hB3.cell 0 rfl
          have u1 := hB3.cell 1 rfl
          clear hP e10 e11
          go_upto_region 6 with fail
          have hba2 := (hba.setCell (p := ⟨g3, 0, none⟩) hg3 (.int .i64 f)).setCell (p := ⟨g3, 1, none⟩) hg3 (.int .i64 t)
          have B3 := (hB3.set 0 (.int .i64 f)).set 1 (.int .i64 t)
          clear f0 f1 u0 u1 hB3 hba
          generalize (wa.setCell ⟨g3, 0, none⟩ (.int .i64 f)).setCell ⟨g3, 1, none⟩ (.int .i64 t) = w2 at *
          replace hz := hz.call hba2
          replace hb := hb.trans (hba2.mono hb.size)
          have x2 := hcl w2 hb 2 _ rfl
          clear hcl hba2
          go_wp2_with fail
          refine (hp w2).mono ?_
          rintro _ _ ⟨rfl, rfl⟩
          have e0 := B3.cell 0 rfl
          have e1 := B3.cell 1 rfl
          clear x2 hp
          by_cases hp4 : p < 4
          · have t4 : decide (p < 4) = true := decide_eq_true hp4
            go_wp2_with fail
            refine (r13give_any f t (2 * p) _ w2 hz).mono ?_
            rintro _ w3 ⟨v3, z3, rfl, hb3, hz3⟩
            replace hb := bCall hb hb3
            clear e0 e1 B3 hz
            go_wp2
            exact ⟨⟨k + 1, by omega, by omega, by go_num, hz3, hb⟩, by simp [intOf]; omega⟩
          · have t4 : decide (p < 4) = false := decide_eq_false hp4
            go_wp2_with fail
            refine (r13take_any f t _ w2 hz).mono ?_
            rintro _ w3 ⟨v3, z3, rfl, hb3, hz3⟩
            replace hb := bCall hb hb3
            clear e0 e1 B3 hz
            go_wp2
            exact ⟨⟨k + 1, by omega, by omega, by go_num, hz3, hb⟩, by simp [intOf]; omega⟩
      · obtain rfl : k = 12 := by omega
        have t6 : decide (((12 : Nat) : Int) < 12) = false := rfl
        clear hA hx
        go_wp2
        go_ret
        exact ⟨_, rfl, hb, hz⟩
    · obtain rfl : k = xs.length := by omega
      clear hA hx
      go_wp2
      go_ret
      exact ⟨_, rfl, hb, hz⟩
end Go.Proofs.YtlldlkjngcgcjaaGreatDoor
