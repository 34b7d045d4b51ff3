/- One of package dialtoneref12. -/
import Derived.Test.YtppdcjbnijbcdaaGreatDoorRefRange
import Derived.Test.YtppdcjbnijbcdaaGreatDoorRg
namespace Go.Proofs.YtppdcjbnijbcdaaGreatDoor
set_option linter.unusedVariables false
set_option linter.unusedSimpArgs false
open Go.RowKit
theorem pick_lt (c n : Int) (h : 0 < n) : 0 ≤ Pl.pick c n ∧ Pl.pick c n < n := by
  unfold Pl.pick; exact ⟨Int.emod_nonneg _ (by omega), Int.emod_lt_of_pos _ h⟩
theorem pref_len : ∀ (k c : Nat), (Pl.pref c k).length = k
  | 0, _ => rfl
  | k + 1, c => by simp [Pl.pref, pref_len k]
def I64 (x : Int) : Prop := -9223372036854775808 ≤ x ∧ x ≤ 9223372036854775807
theorem tdiv3_in {a : Int} (h : I64 a) : -9223372036854775808 ≤ a.tdiv 3 ∧ a.tdiv 3 ≤ 9223372036854775807 := by
  obtain ⟨h1, h2⟩ := h
  by_cases h : 0 ≤ a
  · rw [Int.tdiv_eq_ediv_of_nonneg h]; omega
  · obtain ⟨b, rfl⟩ : ∃ b, a = -b := ⟨-a, by omega⟩
    rw [Int.neg_tdiv, Int.tdiv_eq_ediv_of_nonneg (by omega)]; omega
theorem alloc_size (w : World) (o : Obj) : (w.alloc o).heap.size = w.heap.size + 1 := by
  show (w.heap.push _).size = _
  simp
set_option maxRecDepth 100000 in
set_option maxHeartbeats 4000000 in
theorem One_any (a b c : Int) (ha : I64 a) (hb : I64 b) (hc : I64 c) (w : World) :
    Calls Tryz.prog 29 #[.agg #[.int .i64 a, .int .i64 b, .int .i64 c]] w fun e w' => e = .returned (codeV (Pl.one ⟨a, b, c⟩)) ∧ Below w.heap.size w w' := by
  obtain ⟨ha1, ha2⟩ := ha
  obtain ⟨hb1, hb2⟩ := hb
  obtain ⟨hc1, hc2⟩ := hc
  have q1 : -9223372036854775808 ≤ a.tdiv 3 ∧ a.tdiv 3 ≤ 9223372036854775807 := tdiv3_in ⟨ha1, ha2⟩
  have q2 : -9223372036854775808 ≤ b.tdiv 3 ∧ b.tdiv 3 ≤ 9223372036854775807 := tdiv3_in ⟨hb1, hb2⟩
  obtain ⟨qa1, qa2⟩ := q1
  obtain ⟨qb1, qb2⟩ := q2
  have p1 := pick_lt (a.tdiv 3) 1000 (by decide)
  have p2 := pick_lt a 3 (by decide)
  have p3 := pick_lt (b.tdiv 3) 1000 (by decide)
  have p4 := pick_lt b 3 (by decide)
  go_enter Tryz.func29, Tryz.ntmps29
  go_wp2
  have B1 := (Bx.mk w 23 #[.int .i64 a, .int .i64 b, .int .i64 c]).new (.cells #[.string ⟨#[]⟩, .string ⟨#[]⟩, .int .i64 0] 29)
  have bb := bNew (bNew (bStart w) (.cells #[.int .i64 a, .int .i64 b, .int .i64 c] 23)) (.cells #[.string ⟨#[]⟩, .string ⟨#[]⟩, .int .i64 0] 29)
  refine wp_region_rgl [Eqv (.pointer (some ⟨w.heap.size, 0, none⟩)), Eqv (.int .i64 a), Eqv (.int .i64 (a.tdiv 3)), Eqv (.int .i64 (Pl.pick (a.tdiv 3) 1000)),
    Eqv (.pointer (some ⟨w.heap.size, 0, none⟩)), Eqv (.int .i64 a), Eqv (.int .i64 (Pl.pick a 3)), Eqv (.int .i64 (1 + Pl.pick a 3)), Eqv (.string ⟨(Pl.pref (Pl.pick (a.tdiv 3) 1000).toNat (1 + Pl.pick a 3).toNat).toArray⟩),
    Eqv (.pointer (some ⟨w.heap.size, 1, none⟩)), Eqv (.int .i64 b), Eqv (.int .i64 (b.tdiv 3)), Eqv (.int .i64 (Pl.pick (b.tdiv 3) 1000)),
    Eqv (.pointer (some ⟨w.heap.size, 1, none⟩)), Eqv (.int .i64 b), Eqv (.int .i64 (Pl.pick b 3)), Eqv (.int .i64 (1 + Pl.pick b 3)), Eqv (.string ⟨(Pl.pref (Pl.pick (b.tdiv 3) 1000).toNat (1 + Pl.pick b 3).toNat).toArray⟩),
    Eqv (.agg #[.string ⟨(Pl.pref (Pl.pick (a.tdiv 3) 1000).toNat (1 + Pl.pick a 3).toNat).toArray⟩, .string ⟨(Pl.pref (Pl.pick (b.tdiv 3) 1000).toNat (1 + Pl.pick b 3).toNat).toArray⟩, .int .i64 0]),
    Fresh (w.heap.size + 2) 29 #[.string ⟨#[]⟩, .string ⟨#[]⟩, .int .i64 0]] 20 42 (by kernel_rfl) rfl rfl (by kernel_rfl) ?_ ?_ ?_
  · simp only [AllS]
    repeat' apply And.intro
    all_goals first | exact stab_eqv _ | exact stab_fresh _ _ _ | trivial
  · simp only [Users, List.take, List.length]
    refine ⟨?_, ?_, ?_, ?_, ?_, ?_, ?_, ?_, ?_, ?_, ?_, ?_, ?_, ?_, ?_, ?_, ?_, ?_, ?_, ?_, trivial⟩
    all_goals (intro vs w1 hb hd; have Cw := B1.call hb; have cc0 := Cw.cell 0 rfl; have cc1 := Cw.cell 1 rfl; clear Cw; simp only [putD, Act.put, List.nil_append, List.cons_append])
    · clear hd; go_wp2; exact ⟨Below.refl _ _, rfl⟩
    · (have hdep0 := hd 0 rfl; conv at hdep0 => whnf); clear hd; go_wp2; exact ⟨Below.refl _ _, rfl⟩
    · (have hdep1 := hd 1 rfl; conv at hdep1 => whnf); clear hd; go_wp2; exact ⟨Below.refl _ _, rfl⟩
    · (have hdep2 := hd 2 rfl; conv at hdep2 => whnf); clear hd; go_wp2_with (go_at_call 33; refine (pickRef_any (a.tdiv 3) 1000 (by decide) (by assumption) (by assumption) _).mono ?_; rintro _ _ ⟨rfl, rfl⟩); exact ⟨Below.refl _ _, rfl⟩
    · clear hd; go_wp2; exact ⟨Below.refl _ _, rfl⟩
    · (have hdep4 := hd 4 rfl; conv at hdep4 => whnf); clear hd; go_wp2; exact ⟨Below.refl _ _, rfl⟩
    · (have hdep5 := hd 5 rfl; conv at hdep5 => whnf); clear hd; go_wp2_with (go_at_call 33; refine (pickRef_any (a) 3 (by decide) (by assumption) (by assumption) _).mono ?_; rintro _ _ ⟨rfl, rfl⟩); exact ⟨Below.refl _ _, rfl⟩
    · (have hdep6 := hd 6 rfl; conv at hdep6 => whnf); clear hd; go_wp2; exact ⟨Below.refl _ _, rfl⟩
    · (have hdep3 := hd 3 rfl; conv at hdep3 => whnf); (have hdep7 := hd 7 rfl; conv at hdep7 => whnf); clear hd; go_wp2_with (go_at_call 34; refine (prefix_any (Pl.pick (a.tdiv 3) 1000) (1 + Pl.pick a 3) (by omega) (by omega) (by omega) (by omega) _).mono ?_; rintro _ w9 ⟨rfl, hb9⟩); rfl
    · clear hd; go_wp2; exact ⟨Below.refl _ _, rfl⟩
    · (have hdep9 := hd 9 rfl; conv at hdep9 => whnf); clear hd; go_wp2; exact ⟨Below.refl _ _, rfl⟩
    · (have hdep10 := hd 10 rfl; conv at hdep10 => whnf); clear hd; go_wp2; exact ⟨Below.refl _ _, rfl⟩
    · (have hdep11 := hd 11 rfl; conv at hdep11 => whnf); clear hd; go_wp2_with (go_at_call 33; refine (pickRef_any (b.tdiv 3) 1000 (by decide) (by assumption) (by assumption) _).mono ?_; rintro _ _ ⟨rfl, rfl⟩); exact ⟨Below.refl _ _, rfl⟩
    · clear hd; go_wp2; exact ⟨Below.refl _ _, rfl⟩
    · (have hdep13 := hd 13 rfl; conv at hdep13 => whnf); clear hd; go_wp2; exact ⟨Below.refl _ _, rfl⟩
    · (have hdep14 := hd 14 rfl; conv at hdep14 => whnf); clear hd; go_wp2_with (go_at_call 33; refine (pickRef_any (b) 3 (by decide) (by assumption) (by assumption) _).mono ?_; rintro _ _ ⟨rfl, rfl⟩); exact ⟨Below.refl _ _, rfl⟩
    · (have hdep15 := hd 15 rfl; conv at hdep15 => whnf); clear hd; go_wp2; exact ⟨Below.refl _ _, rfl⟩
    · (have hdep12 := hd 12 rfl; conv at hdep12 => whnf); (have hdep16 := hd 16 rfl; conv at hdep16 => whnf); clear hd; go_wp2_with (go_at_call 34; refine (prefix_any (Pl.pick (b.tdiv 3) 1000) (1 + Pl.pick b 3) (by omega) (by omega) (by omega) (by omega) _).mono ?_; rintro _ w9 ⟨rfl, hb9⟩); rfl
    · (have hdep8 := hd 8 rfl; conv at hdep8 => whnf); (have hdep17 := hd 17 rfl; conv at hdep17 => whnf); clear hd; go_wp2; exact ⟨Below.refl _ _, rfl⟩
    · clear hd; go_wp2; exact ⟨(Below.refl _ _).alloc (Nat.le_refl _) _, _, rfl, by have := hb.size; rw [alloc_size, alloc_size] at this; exact this, Bx.mk _ _ _⟩
  · intro vs w1 hb hR
    simp only [AllR, Eqv] at hR
    obtain ⟨e0, e1, e2, e3, e4, e5, e6, e7, e8, e9, e10, e11, e12, e13, e14, e15, e16, e17, e18, ⟨g, e19, hg, Bg⟩, -⟩ := hR
    simp only [List.drop, List.take, List.map, putD, Act.put, e0, e1, e2, e3, e4, e5, e6, e7, e8, e9, e10, e11, e12, e13, e14, e15, e16, e17, e18, e19]
    clear e0 e1 e2 e3 e4 e5 e6 e7 e8 e9 e10 e11 e12 e13 e14 e15 e16 e17 e18 e19
    have Bp := B1.call hb
    have Br := (Bx.mk (w.alloc (.cells #[.int .i64 a, .int .i64 b, .int .i64 c] 23)) 29 #[.string ⟨#[]⟩, .string ⟨#[]⟩, .int .i64 0]).call hb
    have b1 := bCall bb hb
    rw [alloc_size] at Br
    clear B1 bb
    have l1 := pref_len (1 + Pl.pick a 3).toNat (Pl.pick (a.tdiv 3) 1000).toNat
    have l2 := pref_len (1 + Pl.pick b 3).toNat (Pl.pick (b.tdiv 3) 1000).toNat
    have hone : Pl.one ⟨a, b, c⟩ = ⟨Pl.pref (Pl.pick (a.tdiv 3) 1000).toNat (1 + Pl.pick a 3).toNat, Pl.pref (Pl.pick (b.tdiv 3) 1000).toNat (1 + Pl.pick b 3).toNat, ((Pl.pref (Pl.pick (a.tdiv 3) 1000).toNat (1 + Pl.pick a 3).toNat).length : Int) + 1 + Pl.pick c (min (7 - ((Pl.pref (Pl.pick (a.tdiv 3) 1000).toNat (1 + Pl.pick a 3).toNat).length : Int)) (8 - ((Pl.pref (Pl.pick (b.tdiv 3) 1000).toNat (1 + Pl.pick b 3).toNat).length : Int)))⟩ := rfl
    have hone := Kp.mk hone
    generalize Pl.pref (Pl.pick (a.tdiv 3) 1000).toNat (1 + Pl.pick a 3).toNat = old at *
    generalize Pl.pref (Pl.pick (b.tdiv 3) 1000).toNat (1 + Pl.pick b 3).toNat = new at *
    have lo : 1 ≤ old.length ∧ old.length ≤ 3 := by constructor <;> omega
    have ln : 1 ≤ new.length ∧ new.length ≤ 3 := by constructor <;> omega
    have p5 := pick_lt c (min (7 - (old.length : Int)) (8 - (new.length : Int))) (by omega)
    clear l1 l2
    have g0 := Bg.cell 0 rfl
    have g1 := Bg.cell 1 rfl
    have g2 := Bg.cell 2 rfl
    have f0 := Bg.frozen 0
    have f1 := Bg.frozen 1
    have f2 := Bg.frozen 2
    go_wp2
    clear g0 g1 g2 f0 f1 f2
    have hg2 : g ≠ w.heap.size ∧ g ≠ w.heap.size + 1 ∧ w.heap.size ≤ g := by omega
    obtain ⟨hga, hgb, hgc⟩ := hg2
    have b2 := bSet (bSet (bSet b1 (p := ⟨g, 0, none⟩) hgc (.string ⟨old.toArray⟩)) (p := ⟨g, 1, none⟩) hgc (.string ⟨new.toArray⟩)) (p := ⟨g, 2, none⟩) hgc (.int .i64 0)
    have Br2 := ((Br.far (p := ⟨g, 0, none⟩) (Ne.symm hgb) (.string ⟨old.toArray⟩)).far (p := ⟨g, 1, none⟩) (Ne.symm hgb) (.string ⟨new.toArray⟩)).far (p := ⟨g, 2, none⟩) (Ne.symm hgb) (.int .i64 0)
    have Bp2 := ((Bp.far (p := ⟨g, 0, none⟩) (Ne.symm hga) (.string ⟨old.toArray⟩)).far (p := ⟨g, 1, none⟩) (Ne.symm hga) (.string ⟨new.toArray⟩)).far (p := ⟨g, 2, none⟩) (Ne.symm hga) (.int .i64 0)
    have Bg2 : Bx (((w1.setCell ⟨g, 0, none⟩ (.string ⟨old.toArray⟩)).setCell ⟨g, 1, none⟩ (.string ⟨new.toArray⟩)).setCell ⟨g, 2, none⟩ (.int .i64 0)) g 29 #[.string ⟨old.toArray⟩, .string ⟨new.toArray⟩, .int .i64 0] := ((Bg.set 0 _).set 1 _).set 2 _
    clear b1 Br Bp Bg hb
    generalize ((w1.setCell ⟨g, 0, none⟩ (.string ⟨old.toArray⟩)).setCell ⟨g, 1, none⟩ (.string ⟨new.toArray⟩)).setCell ⟨g, 2, none⟩ (.int .i64 0) = W at *
    have G0 := fun d os => (Bg2.again d os).cell 0 rfl
    have G1 := fun d os => (Bg2.again d os).cell 1 rfl
    have G2 := fun d os => (Bp2.again d os).cell 2 rfl
    have hmin : min (7 - (old.length : Int)) (8 - (new.length : Int)) = 7 - old.length ∨ min (7 - (old.length : Int)) (8 - (new.length : Int)) = 8 - new.length := by omega
    refine wp_region_below_tail 17 (by kernel_rfl) (by kernel_rfl) ?_
    simp only [List.take, List.drop]
    repeat (go_big_quiet_step (first | (go_at_call 33; exact Calls.regrown_of (calls_below (pickRef_any c _ (by omega) (by assumption) (by assumption) _)))))
    refine wpQuiet_nil ?_
    rintro _ ⟨q, rfl⟩
    have b3 := bAgain b2 q.d q.os
    have Br3 := Br2.again q.d q.os
    have Bg3 := Bg2.again q.d q.os
    clear b2 Br2 Bp2 Bg2 G0 G1 G2
    generalize Sort.grow (redrawn W q.d) q.os = W2 at *
    generalize hL : ((old.length : Int) + 1 + Pl.pick c (min (7 - (old.length : Int)) (8 - (new.length : Int)))) = L at *
    have hone' : Kp (Pl.one ⟨a, b, c⟩ = ⟨old, new, L⟩) := hone
    clear hone hL
    have h2 := Bg3.cell 2 rfl
    have f2 := Bg3.frozen 2
    have Bg4 : Bx (W2.setCell ⟨g, 2, none⟩ (.int .i64 L)) g 29 #[.string ⟨old.toArray⟩, .string ⟨new.toArray⟩, .int .i64 L] := Bg3.set 2 _
    have Br4 := Br3.far (p := ⟨g, 2, none⟩) (Ne.symm hgb) (.int .i64 L)
    have b4 := bSet b3 (p := ⟨g, 2, none⟩) hgc (.int .i64 L)
    clear Bg3 Br3 b3
    have h3 := Bg4.cell 0 rfl
    have h4 := Bg4.cell 1 rfl
    have h5 := Bg4.cell 2 rfl
    have r0 := Br4.cell 0 rfl
    have r1 := Br4.cell 1 rfl
    have r2 := Br4.cell 2 rfl
    have k0 := Br4.frozen 0
    have k1 := Br4.frozen 1
    have k2 := Br4.frozen 2
    have Br5 : Bx ((((W2.setCell ⟨g, 2, none⟩ (.int .i64 L)).setCell ⟨w.heap.size + 1, 0, none⟩ (.string ⟨old.toArray⟩)).setCell ⟨w.heap.size + 1, 1, none⟩ (.string ⟨new.toArray⟩)).setCell ⟨w.heap.size + 1, 2, none⟩ (.int .i64 L)) (w.heap.size + 1) 29 #[.string ⟨old.toArray⟩, .string ⟨new.toArray⟩, .int .i64 L] := ((Br4.set 0 _).set 1 _).set 2 _
    have b5 := bSet (bSet (bSet b4 (p := ⟨w.heap.size + 1, 0, none⟩) (Nat.le_succ _) (.string ⟨old.toArray⟩)) (p := ⟨w.heap.size + 1, 1, none⟩) (Nat.le_succ _) (.string ⟨new.toArray⟩)) (p := ⟨w.heap.size + 1, 2, none⟩) (Nat.le_succ _) (.int .i64 L)
    clear Br4 Bg4 b4
    go_wp2
    clear h2 h3 h4 h5 r0 r1 r2 k0 k1 k2 f2
    generalize (((W2.setCell ⟨g, 2, none⟩ (.int .i64 L)).setCell ⟨w.heap.size + 1, 0, none⟩ (.string ⟨old.toArray⟩)).setCell ⟨w.heap.size + 1, 1, none⟩ (.string ⟨new.toArray⟩)).setCell ⟨w.heap.size + 1, 2, none⟩ (.int .i64 L) = W3 at *
    have r0 := Br5.cell 0 rfl
    have r1 := Br5.cell 1 rfl
    have r2 := Br5.cell 2 rfl
    refine bodyPost_ret (v := codeV ⟨old, new, L⟩) (by simp [results, Tryz.results29, go_sem, r0, r1, r2, codeV]) rfl ?_
    exact ⟨by rw [hone'.out], b5⟩
end Go.Proofs.YtppdcjbnijbcdaaGreatDoor
