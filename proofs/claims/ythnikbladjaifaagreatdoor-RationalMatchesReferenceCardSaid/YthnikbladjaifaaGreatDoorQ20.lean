/- Of and Small of dialtoneref04. What the laws of dialtonelaw04 share: fractions and their texts, sizes. Arguments that are slices of plain data, opened into lists; arguments read behind the call as before. What the cards of the laws of package dialtonelaw04 share: the tables laid, the library's variable that holds some number, arguments opened. -/
import Derived.Test.YthnikbladjaifaaGreatDoorQ19
import Derived.Test.YthnikbladjaifaaGreatDoorQ18
import Derived.Test.YthnikbladjaifaaGreatDoorQ16
import Derived.Test.YthnikbladjaifaaGreatDoorQ15
import Derived.Test.YthnikbladjaifaaGreatDoorQ00
import Derived.Deep.Slices
import Derived.ProofKit
import Derived.OpenShut
import Derived.Test.YthnikbladjaifaaGreatDoorQ07
import Derived.Test.YthnikbladjaifaaGreatDoorCards
import Derived.Test.YthnikbladjaifaaGreatDoorTie
import Derived.LaidMore
import Derived.ChangeMaps5
import Derived.Lay
import Derived.SevenTiedAt
import Derived.Stop.Joined
import Derived.Stop.LaidErr
import Derived.Lib.LaidTab
namespace Go.Proofs.YthnikbladjaifaaGreatDoor
set_option linter.unusedVariables false
set_option linter.unusedSimpArgs false
open Go.RowKit Go.Shelf
set_option maxRecDepth 100000 in
set_option maxHeartbeats 2000000 in
theorem fOf_walk (n d : Int) (s0 s1 r1 r2 : List UInt8) (code : Int) (w : World)
    (hF1 : ∀ w0, Calls Tryz.prog 51 #[.int .i64 n] w0 fun e w' => e = .returned (.string ⟨s0.toArray⟩) ∧ Below w0.heap.size w0 w')
    (hF2 : ∀ w0, Calls Tryz.prog 51 #[.int .i64 d] w0 fun e w' => e = .returned (.string ⟨s1.toArray⟩) ∧ Below w0.heap.size w0 w')
    (hM : ∀ w0, Calls Tryz.prog 21 #[.string ⟨s0.toArray⟩, .string ⟨s1.toArray⟩] w0 fun e w' => e = .returned (.tuple #[.agg #[.string ⟨r1.toArray⟩, .string ⟨r2.toArray⟩], .int .i64 code]) ∧ Below w0.heap.size w0 w') :
    Calls Tryz.prog 25 #[.int .i64 n, .int .i64 d] w fun e w' => e = .returned (.tuple #[.agg #[.string ⟨r1.toArray⟩, .string ⟨r2.toArray⟩], .int .i64 code]) ∧ Below w.heap.size w w' := by
  have hb := bNewW w (.cells #[.string ⟨#[]⟩, .string ⟨#[]⟩] 23)
  have BR := Bx.mk w 23 #[.string ⟨#[]⟩, .string ⟨#[]⟩]
  go_enter Tryz.func25, Tryz.ntmps25
  go_wp2_with fail
  refine (hF1 _).mono ?_
  rintro _ w1 ⟨rfl, hb1⟩
  replace hb := bCall hb hb1
  replace BR := BR.call hb1
  clear hF1 hb1
  go_wp2_with fail
  refine (hF2 _).mono ?_
  rintro _ w2 ⟨rfl, hb1⟩
  replace hb := bCall hb hb1
  replace BR := BR.call hb1
  clear hF2 hb1
  go_wp2_with fail
  refine (hM _).mono ?_
  rintro _ w3 ⟨rfl, hb1⟩
  replace hb := bCall hb hb1
  replace BR := BR.call hb1
  clear hM hb1
  have kr0 := BR.cell 0 rfl
  have kr1 := BR.cell 1 rfl
  have f0 := BR.frozen 0
  have f1 := BR.frozen 1
  have BR2 := (BR.set 0 (.string ⟨r1.toArray⟩)).set 1 (.string ⟨r2.toArray⟩)
  have hb2 := bSet (bSet hb (p := ⟨w.heap.size, 0, none⟩) (Nat.le_refl _) (.string ⟨r1.toArray⟩)) (p := ⟨w.heap.size, 1, none⟩) (Nat.le_refl _) (.string ⟨r2.toArray⟩)
  go_wp2
  first | exact bodyPost_ret (results_Q rfl _ _ rfl rfl BR2) rfl ⟨rfl, hb2⟩ | exact bodyPost_ret (results_Q rfl _ _ rfl rfl BR) rfl ⟨rfl, hb⟩
theorem fOf_ok (n d : Int) (w : World) (hn : I64 n) (hd : I64 d) (h0 : d ≠ 0) :
    Calls Tryz.prog 25 #[.int .i64 n, .int .i64 d] w fun e w' => e = .returned (.tuple #[QV (Rat.divInt n d), .int .i64 0]) ∧ Below w.heap.size w w' :=
  fOf_walk n d _ _ _ _ 0 w (fun w0 => rFromInt_any n w0 hn.1 hn.2) (fun w0 => rFromInt_any d w0 hd.1 hd.2) (fun w0 => fMake_ok n d w0 (i64_fits' hn) (i64_fits' hd) h0)
theorem fOf_zero (n : Int) (w : World) (hn : I64 n) :
    Calls Tryz.prog 25 #[.int .i64 n, .int .i64 0] w fun e w' => e = .returned (.tuple #[QZ, .int .i64 40]) ∧ Below w.heap.size w w' := by
  refine fOf_walk n 0 (Lib.itoa n) [48] [] [] 40 w (fun w0 => rFromInt_any n w0 hn.1 hn.2) (fun w0 => ?_) (fun w0 => fMake_zero n w0 (i64_fits' hn))
  have := rFromInt_any 0 w0 (by decide) (by decide)
  rw [itoa_0] at this
  exact this
set_option maxRecDepth 100000 in
set_option maxHeartbeats 4000000 in
theorem Small_walk (x0 x1 p q : Int) (r1 r2 : List UInt8) (w : World) (hp : 0 ≤ p ∧ p < 1999) (hq : 0 ≤ q ∧ q < 60)
    (hP1 : ∀ w0, Calls Tryz.prog 31 #[.int .i64 x0, .int .i64 1999] w0 fun e w' => e = .returned (.int .i64 p) ∧ Below w0.heap.size w0 w')
    (hP2 : ∀ w0, Calls Tryz.prog 31 #[.int .i64 x1, .int .i64 60] w0 fun e w' => e = .returned (.int .i64 q) ∧ Below w0.heap.size w0 w')
    (hO : ∀ w0, Calls Tryz.prog 25 #[.int .i64 (p - 999), .int .i64 (1 + q)] w0 fun e w' => e = .returned (.tuple #[.agg #[.string ⟨r1.toArray⟩, .string ⟨r2.toArray⟩], .int .i64 0]) ∧ Below w0.heap.size w0 w') :
    Calls Tryz.prog 7 #[.agg #[.int .i64 x0, .int .i64 x1]] w fun e w' => e = .returned (rv r1 r2) ∧ Below w.heap.size w w' := by
  unfold rv
  have hb := bNew (bNewW w (.cells #[.int .i64 x0, .int .i64 x1] 25)) (.cells #[.string ⟨#[]⟩, .string ⟨#[]⟩] 23)
  have BA := (Bx.mk w 25 #[.int .i64 x0, .int .i64 x1]).new (.cells #[.string ⟨#[]⟩, .string ⟨#[]⟩] 23)
  have BR := Bx.mk (w.alloc (.cells #[.int .i64 x0, .int .i64 x1] 25)) 23 #[.string ⟨#[]⟩, .string ⟨#[]⟩]
  rw [alloc_size] at BR
  go_enter Tryz.func7, Tryz.ntmps7
  go_wp2
  have BR0 := BR
  generalize hW : (w.alloc (.cells #[.int .i64 x0, .int .i64 x1] 25)).alloc (.cells #[.string ⟨#[]⟩, .string ⟨#[]⟩] 23) = W at *
  clear hW
  refine RS.wp_region_rgl (RS.cls_KF (W.heap.size) 23 #[.string ⟨r1.toArray⟩, .string ⟨r2.toArray⟩]) [(13, 12)] [RS.Eqv (.pointer (some ⟨w.heap.size, 0, none⟩)), RS.Eqv (.int .i64 x0), RS.Eqv (.int .i64 p), RS.Eqv (.int .i64 (p - 999)), RS.Eqv (.pointer (some ⟨w.heap.size, 1, none⟩)), RS.Eqv (.int .i64 x1), RS.Eqv (.int .i64 q), RS.Eqv (.int .i64 (1 + q)), RS.Eqv (.tuple #[.agg #[.string ⟨r1.toArray⟩, .string ⟨r2.toArray⟩], .int .i64 0]), RS.Eqv (.tuple #[.agg #[.string ⟨r1.toArray⟩, .string ⟨r2.toArray⟩], .int .i64 0]), RS.Eqv (.agg #[.string ⟨r1.toArray⟩, .string ⟨r2.toArray⟩]), RS.Eqv (.int .i64 0), RS.PtrR (W.heap.size) 23 #[.string ⟨r1.toArray⟩, .string ⟨r2.toArray⟩], RS.StoR (W.heap.size) 23 #[.string ⟨r1.toArray⟩, .string ⟨r2.toArray⟩], RS.Eqv (.int .i64 0)] 15 18 (by kernel_rfl) rfl rfl (by kernel_rfl) (by kernel_rfl) ?_ ?_ ?_
  · simp only [RS.AllS]
    exact ⟨RS.stab_eqv _, RS.stab_eqv _, RS.stab_eqv _, RS.stab_eqv _, RS.stab_eqv _, RS.stab_eqv _, RS.stab_eqv _, RS.stab_eqv _, RS.stab_eqv _, RS.stab_eqv _, RS.stab_eqv _, RS.stab_eqv _, RS.stab_ptr _ _ _, RS.stab_sto _ _ _, RS.stab_eqv _, trivial⟩
  · simp only [RS.UsersG, List.take, List.length]
    refine ⟨?_, ?_, ?_, ?_, ?_, ?_, ?_, ?_, ?_, ?_, ?_, ?_, ?_, ?_, ?_, trivial⟩
    all_goals (intro vs w2 hb2 hd; simp only [RS.putD, Act.put, List.nil_append, List.cons_append, List.setIfInBounds_toArray, List.set_cons_succ, List.set_cons_zero, Nat.reduceAdd])
    · clear hd hP1 hP2 hO; go_wp2; first | exact ⟨RS.KF.rf _ _ _ _, rfl⟩ | exact ⟨RS.KF.rf _ _ _ _, by simp [RS.Eqv]⟩ | (simp [RS.Eqv])
    · have e0 := hd 0 rfl; change vs 0 = _ at e0; have q0 := (BA.below hb2.1 BA.lt).cell 0 rfl; clear hd hP1 hP2 hO; rw [e0]; go_wp2; first | exact ⟨RS.KF.rf _ _ _ _, rfl⟩ | exact ⟨RS.KF.rf _ _ _ _, by simp [RS.Eqv]⟩ | (simp [RS.Eqv])
    · have e0 := hd 1 rfl; change vs 1 = _ at e0; have hC := hP1 w2; clear hd hP1 hP2 hO; rw [e0]
      go_wp2_with fail
      refine hC.mono ?_
      rintro _ w9 ⟨rfl, hb9⟩
      clear hC
      go_wp2
      exact ⟨hb2.call (Nat.le_refl _) hb9, rfl⟩
    · have e0 := hd 2 rfl; change vs 2 = _ at e0; clear hd hP1 hP2 hO; rw [e0]; go_wp2; first | exact ⟨RS.KF.rf _ _ _ _, rfl⟩ | exact ⟨RS.KF.rf _ _ _ _, by simp [RS.Eqv]⟩ | (simp [RS.Eqv])
    · clear hd hP1 hP2 hO; go_wp2; first | exact ⟨RS.KF.rf _ _ _ _, rfl⟩ | exact ⟨RS.KF.rf _ _ _ _, by simp [RS.Eqv]⟩ | (simp [RS.Eqv])
    · have e0 := hd 4 rfl; change vs 4 = _ at e0; have q1 := (BA.below hb2.1 BA.lt).cell 1 rfl; clear hd hP1 hP2 hO; rw [e0]; go_wp2; first | exact ⟨RS.KF.rf _ _ _ _, rfl⟩ | exact ⟨RS.KF.rf _ _ _ _, by simp [RS.Eqv]⟩ | (simp [RS.Eqv])
    · have e0 := hd 5 rfl; change vs 5 = _ at e0; have hC := hP2 w2; clear hd hP1 hP2 hO; rw [e0]
      go_wp2_with fail
      refine hC.mono ?_
      rintro _ w9 ⟨rfl, hb9⟩
      clear hC
      go_wp2
      exact ⟨hb2.call (Nat.le_refl _) hb9, rfl⟩
    · have e0 := hd 6 rfl; change vs 6 = _ at e0; clear hd hP1 hP2 hO; rw [e0]; go_wp2; first | exact ⟨RS.KF.rf _ _ _ _, rfl⟩ | exact ⟨RS.KF.rf _ _ _ _, by simp [RS.Eqv]⟩ | (simp [RS.Eqv])
    · have e0 := hd 3 rfl; change vs 3 = _ at e0; have e1 := hd 7 rfl; change vs 7 = _ at e1; have hC := hO w2; clear hd hP1 hP2 hO; rw [e0, e1]
      go_wp2_with fail
      refine hC.mono ?_
      rintro _ w9 ⟨rfl, hb9⟩
      clear hC
      go_wp2
      exact ⟨hb2.call (Nat.le_refl _) hb9, rfl⟩
    · have e0 := hd 8 rfl; change vs 8 = _ at e0; clear hd hP1 hP2 hO; rw [e0]; go_wp2; first | exact ⟨RS.KF.rf _ _ _ _, rfl⟩ | exact ⟨RS.KF.rf _ _ _ _, by simp [RS.Eqv]⟩ | (simp [RS.Eqv])
    · have e0 := hd 9 rfl; change vs 9 = _ at e0; clear hd hP1 hP2 hO; rw [e0]; go_wp2; first | exact ⟨RS.KF.rf _ _ _ _, rfl⟩ | exact ⟨RS.KF.rf _ _ _ _, by simp [RS.Eqv]⟩ | (simp [RS.Eqv])
    · have e0 := hd 9 rfl; change vs 9 = _ at e0; clear hd hP1 hP2 hO; rw [e0]; go_wp2; first | exact ⟨RS.KF.rf _ _ _ _, rfl⟩ | exact ⟨RS.KF.rf _ _ _ _, by simp [RS.Eqv]⟩ | (simp [RS.Eqv])
    · clear hd hP1 hP2 hO; go_wp2; exact hb2.new (Nat.le_refl _) #[.string ⟨#[]⟩, .string ⟨#[]⟩] rfl _
    · have e0 := hd 10 rfl; change vs 10 = _ at e0; obtain ⟨g, c, eg, hg, hcs, hB⟩ := hd 12 rfl; change vs 12 = _ at eg; obtain ⟨a', b', rfl⟩ := RS.two_cells hcs; have q0 := hB.cell 0 rfl; have q1 := hB.cell 1 rfl; have q2 := hB.frozen 0; have q3 := hB.frozen 1; clear hd hP1 hP2 hO; rw [eg, e0]; go_wp2; exact RS.KF.store2 hg hB _ eg _
    · have e0 := hd 11 rfl; change vs 11 = _ at e0; clear hd hP1 hP2 hO; rw [e0]; go_wp2; first | exact ⟨RS.KF.rf _ _ _ _, rfl⟩ | exact ⟨RS.KF.rf _ _ _ _, by simp [RS.Eqv]⟩ | (simp [RS.Eqv])
  · intro vs wa hba hR2
    simp only [RS.AllR, RS.Eqv] at hR2
    obtain ⟨e0, e1, e2, e3, e4, e5, e6, e7, e8, e9, e10, e11, e12, e13, e14, -⟩ := hR2
    obtain ⟨gS, egS, hgS, BS⟩ := e13
    change vs 12 = _ at egS
    clear e12
    simp only [List.drop, List.take, List.map, RS.putD, Act.put, List.setIfInBounds_toArray, List.set_cons_succ, List.set_cons_zero, Nat.reduceAdd]
    rw [e0, e1, e2, e3, e4, e5, e6, e7, e8, e9, e10, e11, egS, e14]
    clear e0 e1 e2 e3 e4 e5 e6 e7 e8 e9 e10 e11 e14
    have hb := hb.trans (hba.1.mono hb.size)
    have BR := BR.below hba.1 BR.lt
    have hgw : w.heap.size + 1 ≠ gS := by have := BR0.lt; omega
    have s0 := BS.cell 0 rfl
    have s1 := BS.cell 1 rfl
    have kr0 := BR.cell 0 rfl
    have kr1 := BR.cell 1 rfl
    have g0 := BR.frozen 0
    have g1 := BR.frozen 1
    have BR2 := (BR.set 0 (.string ⟨r1.toArray⟩)).set 1 (.string ⟨r2.toArray⟩)
    have hb2 := bSet (bSet hb (p := ⟨w.heap.size + 1, 0, none⟩) (by show w.heap.size ≤ w.heap.size + 1; omega) (.string ⟨r1.toArray⟩)) (p := ⟨w.heap.size + 1, 1, none⟩) (by show w.heap.size ≤ w.heap.size + 1; omega) (.string ⟨r2.toArray⟩)
    go_wp2
    exact bodyPost_ret (results_Q1 rfl _ _ rfl BR2) rfl ⟨rfl, hb2⟩
theorem pick_small (x : Int) : I64 (pickI x 1999 - 999) ∧ I64 (1 + pickI x 60) ∧ 1 + pickI x 60 ≠ 0 := by
  have h1 := pickI_lt x (show (0 : Int) < 1999 by decide)
  have h2 := pickI_lt x (show (0 : Int) < 60 by decide)
  exact ⟨⟨by omega, by omega⟩, ⟨by omega, by omega⟩, by omega⟩
/-- a small fraction: at most 999 above, at most 60 below -/
theorem Small_any (x0 x1 : Int) (w : World) (h0 : I64 x0) (h1 : I64 x1) :
    Calls Tryz.prog 7 #[.agg #[.int .i64 x0, .int .i64 x1]] w fun e w' => (∃ q : Rat, e = .returned (QV q) ∧ q.num.natAbs < 1000 ∧ q.den ≤ 60) ∧ Below w.heap.size w w' := by
  have hp := pickI_lt x0 (show (0 : Int) < 1999 by decide)
  have hq := pickI_lt x1 (show (0 : Int) < 60 by decide)
  have e : (((1 + pickI x1 60).toNat : Nat) : Int) = 1 + pickI x1 60 := Int.toNat_of_nonneg (by omega)
  have hs := divInt_small (pickI x0 1999 - 999) (1 + pickI x1 60).toNat (by omega)
  rw [e] at hs
  refine (Small_walk x0 x1 _ _ _ _ w hp hq (fun w0 => calls_below (fpick_any x0 1999 w0 h0.1 h0.2 (by decide) (by decide))) (fun w0 => calls_below (fpick_any x1 60 w0 h1.1 h1.2 (by decide) (by decide))) (fun w0 => fOf_ok _ _ w0 (pick_small x0).1 (pick_small x1).2.1 (pick_small x1).2.2)).mono ?_
  rintro e w' ⟨rfl, hb⟩
  exact ⟨⟨_, rfl, by omega, by omega⟩, hb⟩
theorem Long_any (x0 x1 x2 x3 : Int) (w : World) (h0 : I64 x0) (h1 : I64 x1) (h2 : I64 x2) (h3 : I64 x3) :
    Calls Tryz.prog 6 #[.agg #[.int .i64 x0, .int .i64 x1, .int .i64 x2, .int .i64 x3]] w fun e w' => (∃ q : Rat, e = .returned (QV q) ∧ q.num.natAbs < 10 ^ 100 ∧ q.den < 10 ^ 100) ∧ Below w.heap.size w w' :=
  Long_walk x0 x1 x2 x3 w h0 h1 h2 h3
end Go.Proofs.YthnikbladjaifaaGreatDoor
namespace Go.Proofs.YthnikbladjaifaaGreatDoor
set_option linter.unusedVariables false
set_option linter.unusedSimpArgs false
open Go.RowKit Go.Shelf
/-- a fraction and its texts -/
def LQ (q : Rat) (n d : List UInt8) : Prop := Kp (Lib.itoa q.num = n ∧ Lib.itoa (q.den : Int) = d)
theorem LQ.eq {q : Rat} {n d : List UInt8} (h : LQ q n d) : QV q = .agg #[.string ⟨n.toArray⟩, .string ⟨d.toArray⟩] := by
  rw [← h.out.1, ← h.out.2]; rfl
theorem LQ.ex (q : Rat) : ∃ n d, LQ q n d := ⟨_, _, ⟨rfl, rfl⟩⟩
/-- a fraction of at most 100 digits above and below -/
structure Lg (q : Rat) : Prop where
  num : q.num.natAbs < 10 ^ 100
  den : q.den < 10 ^ 100
theorem Lg.fq {q : Rat} (h : Lg q) : Rq.Fq q := ⟨big_fits h.num, big_fits (by simpa using h.den)⟩
theorem Long_lq (x0 x1 x2 x3 : Int) (w : World) (h0 : I64 x0) (h1 : I64 x1) (h2 : I64 x2) (h3 : I64 x3) :
    Calls Tryz.prog 6 #[.agg #[.int .i64 x0, .int .i64 x1, .int .i64 x2, .int .i64 x3]] w fun e w' => (∃ (q : Rat) (n d : List UInt8), e = .returned (.agg #[.string ⟨n.toArray⟩, .string ⟨d.toArray⟩]) ∧ LQ q n d ∧ Lg q) ∧ Below w.heap.size w w' :=
  (Long_any x0 x1 x2 x3 w h0 h1 h2 h3).mono fun e w' ⟨⟨q, he, hn, hd⟩, hb⟩ => ⟨⟨q, _, _, he, ⟨⟨rfl, rfl⟩⟩, ⟨hn, hd⟩⟩, hb⟩
theorem fits_times {z k : Int} (hz : z.natAbs < 10 ^ 100) (hk : k.natAbs < 10 ^ 100) : Ig.fits (z * k) := by
  unfold Ig.fits
  rw [Int.natAbs_mul, show (200 : Nat) = 100 + 100 from rfl, Nat.pow_add]
  exact Nat.mul_lt_mul'' hz hk
theorem small_big {k : Int} (h : k.natAbs ≤ 1000000) : k.natAbs < 10 ^ 100 := Nat.lt_of_lt_of_le (show k.natAbs < 10 ^ 7 by omega) (Nat.pow_le_pow_right (by decide) (by decide))
theorem den_big {q : Rat} (h : Lg q) : (q.den : Int).natAbs < 10 ^ 100 := by simpa using h.den
theorem divInt_self' (q : Rat) : Rat.divInt q.num (q.den : Int) = q := Rat.num_divInt_den q
theorem divInt_times (q : Rat) {k : Int} (hk : k ≠ 0) : Rat.divInt (q.num * k) ((q.den : Int) * k) = q := by
  rw [Rat.divInt_mul_right hk]; exact divInt_self' q
end Go.Proofs.YthnikbladjaifaaGreatDoor
namespace Go.Proofs.YthnikbladjaifaaGreatDoor
set_option linter.unusedVariables false
open Go.ChangeShapes Go.WideShapes Go.ChangeAt Go.RowKit
section
variable {H : Type} {enc : TypeId × Value → H} {P : Program} {W : World} {sp : Nat → Bool} {held : Bool}
theorem choose_list {α : Type} {Q : Nat → α → Prop} : ∀ n, (∀ i, i < n → ∃ c, Q i c) → ∃ x : List α, x.length = n ∧ ∀ i c, x[i]? = some c → Q i c
  | 0, _ => ⟨[], rfl, fun i c h => by simp at h⟩
  | n + 1, h => by
    obtain ⟨x, hl, hx⟩ := choose_list n fun i hi => h i (by omega)
    obtain ⟨c, hc⟩ := h n (by omega)
    refine ⟨x ++ [c], by simp [hl], fun i d hi => ?_⟩
    rcases Nat.lt_or_ge i x.length with h1 | h1
    · rw [List.getElem?_append_left h1] at hi
      exact hx i d hi
    · rw [List.getElem?_append_right h1] at hi
      have h2 : i - x.length = 0 := by
        rcases Nat.eq_zero_or_pos (i - x.length) with h3 | h3
        · exact h3
        · rw [List.getElem?_eq_none (by simp; omega)] at hi; cases hi
      rw [h2] at hi
      simp only [List.getElem?_cons_zero, Option.some.injEq] at hi
      subst hi
      rw [show i = n by omega]
      exact hc
/-- an array of ints that is read -/
theorem open_arr {n : Nat} {t e : TypeId} (ht : P.underlying t = some (.array n e)) (he : P.underlying e = some (.int .i64)) (ce : P.cellsOf e = 1) (ct : P.cellsOf t = n) {fuel : Nat} {cs : List Value} {y : DataW H × List MemPlace}
    (h : DataW.trod enc P W 0 sp held fuel t cs = some y) : ∃ zs : List Int, cs = zs.map (Value.int .i64) ∧ zs.length = n ∧ ∀ z ∈ zs, (Lit.int .i64 z).wf = true := by
  obtain ⟨xs, m, _, _, hl, hxl, hel⟩ := DataW.trod_array ht h
  rw [ct] at hl
  obtain ⟨zs, hz, hzz⟩ := choose_list (Q := fun i z => cs[i]? = some (Value.int .i64 z) ∧ (Lit.int .i64 z).wf = true) n fun i hi => by
    have h1 := hel i hi
    rw [ce, Nat.mul_one, List.getElem?_eq_getElem (by omega)] at h1
    obtain ⟨z, e1, _, e3⟩ := DataW.trod_int he h1
    refine ⟨z, ?_, e3⟩
    have h0 : ((cs.drop i).take 1)[0]? = some (Value.int .i64 z) := by rw [e1]; rfl
    simpa using h0
  refine ⟨zs, ?_, hz, fun z hm => ?_⟩
  · apply List.ext_getElem?
    intro i
    rw [List.getElem?_map]
    cases hi : zs[i]? with
    | none =>
      rw [List.getElem?_eq_none_iff] at hi
      rw [List.getElem?_eq_none (by omega)]; rfl
    | some z => exact (hzz i z hi).1
  · obtain ⟨i, hi⟩ := List.mem_iff_getElem?.1 hm
    exact (hzz i z hi).2
/-- a slice that is read, of elements of plain data -/
theorem open_at {α : Type} {t e : TypeId} (size : Nat) (f : α → List Value) (Q : α → Prop) (ht : P.underlying t = some (.slice e)) (hce : P.cellsOf e = size) (hpos : 0 < size) (hsz : ∀ c, (f c).length = size)
    (hel : ∀ n cs y, DataW.trod enc P W 0 sp held n e cs = some y → ∃ c, cs = f c ∧ Q c) {r : Reach} {b0 : Nat} {v : Value} {d : DataW H} {ps : List MemPlace} (hval : Value.okWide P W r b0 t v) (hd : DataW.Trod enc P W 0 sp held t v d ps) :
    ∃ (A : Option Addr) (x : List α) (cap : Nat), v = .slice A x.length cap ∧ At size f W W.heap.size A x ∧ x.length ≤ cap ∧ cap ≤ maxLen ∧ ∀ c ∈ x, Q c := by
  obtain ⟨a0, len, cap, rfl⟩ := okWide_slice ht hval
  obtain ⟨fuel, hf⟩ := hd
  rcases Go.Deep.open_slice ht hf with ⟨hcs, _⟩ | ⟨a, len', cap', m, n, D, Pl, hcs, hb, hl, hm, hmm, hx, hel2⟩
  · simp [Value.cells] at hcs
    obtain ⟨rfl, rfl, rfl⟩ := hcs
    exact ⟨none, [], 0, rfl, At.nil, Nat.le_refl _, Nat.zero_le _, fun c h => by cases h⟩
  · simp [Value.cells] at hcs
    obtain ⟨rfl, rfl, rfl⟩ := hcs
    have hlm : len ≤ m := by rw [hmm]; split <;> omega
    obtain ⟨x, hxl, hxx⟩ := choose_list (Q := fun i c => W.cells? 0 (a.add (i * size)) size = some (f c) ∧ Q c) len fun i hi => by
      obtain ⟨cs', h1, h2⟩ := hel2 i (by omega)
      obtain ⟨c, rfl, hq⟩ := hel _ _ _ h2
      rw [hce] at h1
      exact ⟨c, h1, hq⟩
    refine ⟨some a, x, cap, by rw [hxl], fun h0 => ?_, by omega, hm, fun c hc => ?_⟩
    · have hcell : ∀ i c, x[i]? = some c → ∀ j u, (f c)[j]? = some u → W.cell? ((a.add (i * size)).add j) = some u := fun i c hi j u hj => by
        obtain ⟨_, _, hc⟩ := World.cells?_some (hxx i c hi).1
        have hjl : j < size := by rw [← hsz c]; exact (List.getElem?_eq_some_iff.1 hj).1
        rw [hc j hjl]; exact hj
      have h00 : 0 < (f x[0]).length := by rw [hsz]; exact hpos
      have h1 := hcell 0 x[0] (List.getElem?_eq_getElem h0) 0 _ (List.getElem?_eq_getElem h00)
      have hs : a.spot = none := by
        cases hsp : a.spot with
        | none => rfl
        | some k =>
          unfold World.cell? at h1
          split at h1
          · simp [Addr.add, hsp] at h1
          · cases h1
      obtain ⟨b, off, spt⟩ := a
      simp only at hs
      subst hs
      have ha : ∀ o n : Nat, (⟨b, o, none⟩ : Addr).add n = ⟨b, o + n, none⟩ := by
        intro o n
        unfold Addr.add
        split
        · next h => subst h; rfl
        · rfl
      refine ⟨b, off, rfl, ?_, fun i c hi j u hj => ?_⟩
      · have h2 := World.block_lt_of_cell? _ _ h1
        rwa [ha, ha] at h2
      · have := hcell i c hi j u hj
        rwa [ha, ha] at this
    · obtain ⟨i, hi⟩ := List.mem_iff_getElem?.1 hc
      exact (hxx i c hi).2
/-- an array of ints, given -/
theorem open_agg {n : Nat} {t e : TypeId} (ht : P.underlying t = some (.array n e)) (he : P.underlying e = some (.int .i64)) (ce : P.cellsOf e = 1) (ct : P.cellsOf t = n) {r : Reach} {b0 : Nat} {v : Value} {d : DataW H} {ps : List MemPlace}
    (hval : Value.okWide P W r b0 t v) (hd : DataW.Trod enc P W 0 sp held t v d ps) : ∃ zs : List Int, v = .agg (zs.map (Value.int .i64)).toArray ∧ zs.length = n ∧ ∀ z ∈ zs, (Lit.int .i64 z).wf = true := by
  unfold Value.okWide at hval
  rw [ht] at hval
  obtain ⟨cs, rfl, _, _⟩ := hval
  obtain ⟨fuel, hf⟩ := hd
  obtain ⟨zs, h1, h2, h3⟩ := open_arr ht he ce ct hf
  refine ⟨zs, ?_, h2, h3⟩
  have : cs.toList = zs.map (Value.int .i64) := h1
  rw [← this]
theorem len_two {zs : List Int} (h : zs.length = 2) : ∃ a b, zs = [a, b] := by
  match zs, h with
  | [a, b], _ => exact ⟨a, b, rfl⟩
theorem len_three {zs : List Int} (h : zs.length = 3) : ∃ a b c, zs = [a, b, c] := by
  match zs, h with
  | [a, b, c], _ => exact ⟨a, b, c, rfl⟩
/-- arguments read behind the call as they did before -/
theorem trodAll_stay (hl : laidOutB P = true) {W' : World} (hb : Below W.heap.size W W') : ∀ {ts : List TypeId} {vs : List Value} {ds : List (DataW H)} {ps : List MemPlace}, (∀ t ∈ ts, P.readableRec t = true ∧ t < P.types.size) →
    DataW.TrodAll enc P W 0 (fun _ => true) true ts vs ds ps → (∀ x ∈ ps, x.block < W.heap.size) → DataW.TrodAll enc P W' 0 (fun b => decide (b < W.heap.size)) true ts vs ds ps
  | [], _, _, _, _, h, _ => by
    obtain ⟨rfl, rfl, rfl⟩ := trodAll_nil h
    rfl
  | t :: ts, vs, ds, ps, ht, h, hlt => by
    obtain ⟨v, vs', d, ds', p, q, rfl, rfl, rfl, hd, hrest⟩ := trodAll_cons h
    have h1 := ht t (by simp)
    exact ⟨p, q, Below.trod hl h1.1 h1.2 hd hb (fun x hx => hlt x (List.mem_append_left _ hx)), trodAll_stay hl hb (fun u hu => ht u (by simp [hu])) hrest (fun x hx => hlt x (List.mem_append_right _ hx)), rfl⟩
end
end Go.Proofs.YthnikbladjaifaaGreatDoor
namespace Go.Proofs.YthnikbladjaifaaGreatDoor
set_option linter.unusedVariables false
set_option linter.constructorNameAsVariable false
set_option maxRecDepth 100000
open Go.ChangeShapes Go.WideShapes Go.ChangeAt Go.RowKit
theorem own : ownKnob Tryz.prog.godebug = none := by kernel_rfl
theorem laidOut : laidOutB Tryz.prog = true := by kernel_rfl
theorem i64_of {z : Int} (h : (Lit.int .i64 z).wf = true) : I64 z := bounds_i64 h
theorem env_of {W : World} (h : laidMetH Tryz.prog Rows.rationalMatchesReferenceRow.laid W) : Env W := by
  rw [MakeChecks.laidMetH_plain _ _ _ (by kernel_rfl)] at h
  have h3 := h.tail.tail
  have e1 : (Rows.laid_internal_strconv_uint64pow10 : DataW Unit) = Lib.tabData .u64 Lib.pow10Tab := by kernel_rfl
  simp only [e1] at h3
  exact Lib.tabIs_of_head (g := 1) (t := 160) (e := 126) (n := 20) (by kernel_rfl) (by kernel_rfl) (by kernel_rfl) (by kernel_rfl) (by kernel_rfl) (by kernel_rfl) h3
theorem envM_of {W : World} (h : W.ShapedOpen Tryz.prog) : EnvM W := by
  obtain ⟨m, hm⟩ := Tryz.laysM145.s1_3 W h
  refine ⟨⟨m, hm⟩, ?_⟩
  rcases Nat.lt_or_ge 0 W.heap.size with h1 | h1
  · exact h1
  · exfalso
    have h2 : W.cell? ⟨0, 0, none⟩ = some (.int .i64 m) := hm
    unfold World.cell? at h2
    rw [show (⟨0, 0, none⟩ : Addr).block = 0 from rfl, Array.getElem?_eq_none h1] at h2
    cases h2
theorem laid_witness (os : Os) (args : Array Value) : laidMetH Tryz.prog Rows.rationalMatchesReferenceRow.laid ((World.laidAll Tryz.prog os Rows.rationalMatchesReferenceRow.laid).forCall (fun _ _ => 0) ⟨#[], args, []⟩).memory := by
  rw [MakeChecks.laidMetH_plain _ _ _ (by kernel_rfl)]
  exact laidMet_laidAll _ (by kernel_rfl) (by kernel_rfl)
theorem stay_of {H : Type} {enc : TypeId × Value → H} {W : World} {ts : List TypeId} {vs : List Value} {ds : List (DataW H)} {ps : List MemPlace} (h9 : (ts.all fun t => Tryz.prog.readableRec t && decide (t < Tryz.prog.types.size)) = true) (hA : DataW.TrodAll enc Tryz.prog W 0 (fun _ => true) true ts vs ds ps)
    (hlt : ∀ x ∈ ps, x.block < W.heap.size) (W' : World) (hb : Below W.heap.size W W') : DataW.TrodAll enc Tryz.prog W' 0 (fun b => decide (b < W.heap.size)) true ts vs ds ps :=
  trodAll_stay laidOut hb (fun t ht => by simpa using List.all_eq_true.1 h9 t ht) hA hlt
theorem open_str {H : Type} {enc : TypeId × Value → H} {W : World} {r : Reach} {b0 : Nat} {v : Value} {d : DataW H} {ps : List MemPlace} (hval : Value.okWide Tryz.prog W r b0 9 v) (hd : DataW.Trod enc Tryz.prog W 0 (fun _ => true) true 9 v d ps) :
    ∃ s : List UInt8, v = .string ⟨s.toArray⟩ ∧ s.length ≤ 9223372036854775807 := by
  obtain ⟨b, rfl, -, -, hs⟩ := Go.ChangeMaps.open_string Tryz.underlying9 hval hd
  obtain ⟨l, rfl⟩ := ba_of b
  exact ⟨l, rfl, Nat.le_trans hs (by decide)⟩
theorem open_two {H : Type} {enc : TypeId × Value → H} {W : World} {r : Reach} {b0 : Nat} {v : Value} {d : DataW H} {ps : List MemPlace} (hval : Value.okWide Tryz.prog W r b0 25 v) (hd : DataW.Trod enc Tryz.prog W 0 (fun _ => true) true 25 v d ps) :
    ∃ a b, v = .agg #[.int .i64 a, .int .i64 b] ∧ I64 a ∧ I64 b := by
  obtain ⟨zs, rfl, hl, hw⟩ := open_agg (P := Tryz.prog) Tryz.underlying25 Tryz.underlying3 (by kernel_rfl) (by kernel_rfl) hval hd
  obtain ⟨a, b, rfl⟩ := len_two hl
  exact ⟨a, b, rfl, i64_of (hw a (by simp)), i64_of (hw b (by simp))⟩
theorem open_four {H : Type} {enc : TypeId × Value → H} {W : World} {r : Reach} {b0 : Nat} {v : Value} {d : DataW H} {ps : List MemPlace} (hval : Value.okWide Tryz.prog W r b0 24 v) (hd : DataW.Trod enc Tryz.prog W 0 (fun _ => true) true 24 v d ps) :
    ∃ a b c e, v = .agg #[.int .i64 a, .int .i64 b, .int .i64 c, .int .i64 e] ∧ I64 a ∧ I64 b ∧ I64 c ∧ I64 e := by
  obtain ⟨zs, rfl, hl, hw⟩ := open_agg (P := Tryz.prog) Tryz.underlying24 Tryz.underlying3 (by kernel_rfl) (by kernel_rfl) hval hd
  match zs, hl with
  | [a, b, c, e], _ => exact ⟨a, b, c, e, rfl, i64_of (hw a (by simp)), i64_of (hw b (by simp)), i64_of (hw c (by simp)), i64_of (hw e (by simp))⟩
/-- the condition on variables and the world's shape, both handed to the walk -/
theorem handed_shaped {H : Type} {enc : TypeId × Value → H} {a : Assume} {C : Checked} {os : Os} {f : FuncId} {fn : Func} {s : ChangeSpec} {conds : List PathCond} {apart fresh handsOn again : Bool} {X : World → Array Value → Prop}
    (hX : ∀ (w w' : World) (args : Array Value), w.heap = w'.heap → X w args → X w' args)
    (own : ownKnob C.prog.godebug = none) (started : os.Started) (noInit : C.prog.inits.idxOf? f = none) (hfn : C.prog.funcs[f]? = some fn)
    (witness : ∃ (w : World) (tape : Tape) (i : Input), w.os = os ∧ (w.forCall tape i).Shaped C.prog ∧ i.vars = [] ∧ Input.okWide C.prog (w.forCall tape i) .any w.heap.size f i ∧
      ((s.pre enc C.prog fn conds apart (w.forCall tape i).memory i.args ∧ X (w.forCall tape i).memory i.args) ∧ sizedMet enc C.prog fn (OpenSpec.ofChange s) apart (w.forCall tape i).memory i.args) ∧ a.holds C.prog (lone (Frame.enter C.prog f i.args .normal) [] (w.forCall tape i)))
    (contract : ∀ (W : World) (base : Nat) (args : Array Value) (ds gs : List (DataW H)) (before : List MemPlace),
      (∀ (j : Nat) t v, fn.params[j]? = some t → args[j]? = some v → Value.okWide C.prog W .any base t v) →
      DataW.Whole enc C.prog fn.params.toList s.vars apart W args.toList ds gs before →
      X W args → W.ShapedOpen C.prog →
      Calls C.prog f args W fun e W' => ∃ v, e = .returned v ∧ s.post enc C.prog fn apart fresh handsOn again W args v W') :
    ReturnsInHanded a C os f .any (fun w args => (s.pre enc C.prog fn conds apart w args ∧ X w args) ∧ sizedMet enc C.prog fn (OpenSpec.ofChange s) apart w args) (s.post enc C.prog fn apart fresh handsOn again) := by
  refine returnsInHanded_of_calls own started noInit witness ?_
  intro w tape i _ hsh _ hok hpre _
  obtain ⟨_, _, _, fn', hfn', _, _, _, _, hval⟩ := hok
  obtain rfl : fn' = fn := Option.some.inj (hfn'.symm.trans hfn)
  obtain ⟨⟨⟨ds, gs, before, hw, hc⟩, hx⟩, hz⟩ := hpre
  refine (contract (w.forCall tape i) w.heap.size i.args ds gs before hval (DataW.Whole.of_heap (w' := w.forCall tape i) (by rfl) hw) (hX _ _ _ (by rfl) hx) hsh).mono fun e W' ⟨v, he, hp⟩ => ?_
  subst he
  exact ChangeSpec.post_blind hp
end Go.Proofs.YthnikbladjaifaaGreatDoor
