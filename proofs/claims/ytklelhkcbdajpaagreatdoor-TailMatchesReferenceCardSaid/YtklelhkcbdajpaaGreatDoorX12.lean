/- The closures of package tail: terms, tails; isChance. isChance, tails of package tail. Binomial, Hyper of package tail. Hyper of package tail. Of of package rational; check. Comparing fractions by whole parts and remainders: plain. -/
import Derived.Test.YtklelhkcbdajpaaGreatDoorX11
import Derived.Test.YtklelhkcbdajpaaGreatDoorX07
import Derived.Test.YtklelhkcbdajpaaGreatDoorX05
set_option linter.unusedVariables false
set_option linter.unusedSimpArgs false
set_option maxRecDepth 100000
set_option maxHeartbeats 8000000
namespace Go.Proofs.YtklelhkcbdajpaaGreatDoor
open Go.RowKit Go.Shelf
structure Pw (a : Int) (n g : Nat) (W : World) : Prop where
  out : ∃ A cap, Bx W g 61 #[.slice A (n + 1) cap] ∧ At 1 strC W W.heap.size A (pwl a n) ∧ n + 1 ≤ cap
theorem Pw.call {a : Int} {n g : Nat} {W W' : World} (h : Pw a n g W) (hb : Below W.heap.size W W') : Pw a n g W' := by
  obtain ⟨A, cap, h1, h2, h3⟩ := h.out
  exact ⟨A, cap, h1.call hb, (h2.below hb).more hb.size, h3⟩
structure Tl (n : Nat) (c e : Int) (gn ga gr gy go : Nat) (W : World) : Prop where
  hn : Bx W gn 3 #[.int .i64 n]
  hr : Bx W gr 75 (rowC (pt n))
  hy : Pw c n gy W
  ho : Pw (e - c) n go W
  ha : Pw e n ga W
theorem Tl.call {n : Nat} {c e : Int} {gn ga gr gy go : Nat} {W W' : World} (h : Tl n c e gn ga gr gy go W) (hb : Below W.heap.size W W') : Tl n c e gn ga gr gy go W' :=
  ⟨h.hn.call hb, h.hr.call hb, h.hy.call hb, h.ho.call hb, h.ha.call hb⟩
theorem Pw.cells {a : Int} {n g : Nat} {W : World} (h : Pw a n g W) : ∃ b off cap, n + 1 ≤ cap ∧ (∀ d os, (Sort.grow (redrawn W d) os).cell? ⟨g, 0, none⟩ = some (.slice (some ⟨b, off, none⟩) (n + 1) cap)) ∧
    ∀ (j : Nat) (s : List UInt8), j ≤ n → Ix (a ^ j) s → ∀ d os, (Sort.grow (redrawn W d) os).cell? ⟨b, off + j, none⟩ = some (.string ⟨s.toArray⟩) := by
  obtain ⟨A, cap, h1, h2, h3⟩ := h.out
  obtain ⟨b, off, rfl, hb, hc⟩ := h2 (by rw [pwl_len]; omega)
  refine ⟨b, off, cap, h3, fun d os => (h1.again d os).cell 0 rfl, fun j s hj hs d os => ?_⟩
  have h4 := hc j _ (pwl_get a (by omega)) 0 _ rfl
  rw [Nat.mul_one, Nat.add_zero, hs.out] at h4
  exact ((below_regrown W d os).cell (p := ⟨b, off + j, none⟩) hb).trans h4
theorem term_any (n i : Nat) (c e : Int) (gn ga gr gy go : Nat) (s : List UInt8) (w : World) (hT : Tl n c e gn ga gr gy go w) (hn : n ≤ 50) (hi : i ≤ n) (h0 : 0 ≤ c) (h1 : c ≤ e) (h2 : e ≤ 1000) (hs : Ix (Tb.tm n c (e - c) i) s) (hE : Env w) :
    Calls Tryz.prog 84 #[.int .i64 i, .pointer (some ⟨gr, 0, none⟩), .pointer (some ⟨gy, 0, none⟩), .pointer (some ⟨go, 0, none⟩), .pointer (some ⟨gn, 0, none⟩)] w fun e' w' => e' = .returned (.string ⟨s.toArray⟩) ∧ Below w.heap.size w w' := by
  obtain ⟨by_, oy, cy, hcy, yb, yc⟩ := hT.hy.cells
  obtain ⟨bo, oo, co, hco, ob, oc⟩ := hT.ho.cells
  obtain ⟨s1, e1⟩ := Ix.ex (c ^ i)
  obtain ⟨s2, e2⟩ := Ix.ex ((e - c) ^ (n - i))
  obtain ⟨s3, e3⟩ := Ix.ex (c ^ i * (e - c) ^ (n - i))
  have e4 := pt_sum n i
  have gN := fun d os => (hT.hn.again d os).cell 0 rfl
  have gR := fun d os => (hT.hr.again d os).cell i (rowC_get (pt n) (by omega))
  have y1 := yc i s1 hi e1
  have o1 := oc (n - i) s2 (by omega) e2
  have k1 := fun d os => times_s (Sort.grow (redrawn w d) os) e1 e2 e3 ⟨rfl⟩ (Tb.pow_sz h0 (by omega) i) (Tb.pow_sz (c := e - c) (by omega) (by omega) (n - i)) ((Tb.pow_sz h0 (by omega) i).mul (Tb.pow_sz (c := e - c) (by omega) (by omega) (n - i))) (by omega) (by omega) (by omega) (hE.below (below_regrown w d os))
  have k2 := fun d os => times_s (Sort.grow (redrawn w d) os) e4 e3 hs ⟨rfl⟩ (Tb.ch_sz (by omega) i) ((Tb.pow_sz h0 (by omega) i).mul (Tb.pow_sz (c := e - c) (by omega) (by omega) (n - i))) (Tb.tm_sz hn h0 (by omega) (d := e - c) (by omega) (by omega) i) (by decide) (by omega) (by decide) (hE.below (below_regrown w d os))
  obtain ⟨m, hm⟩ : ∃ m, n - i = m := ⟨_, rfl⟩
  have hni : (n : Int) - (i : Int) = (m : Int) := by omega
  rw [hm] at o1
  have hm2 : m ≤ n := by omega
  generalize pt n i = sp at *
  clear yc oc hT e1 e2 e3 e4 hs hE hm
  go_enter Tryz.func84, Tryz.ntmps84
  go_wp2
  refine wp_region_quiet_below (by kernel_rfl) (by kernel_rfl) ?_
  repeat (go_big_quiet_step (first
    | (go_at_call 52; with_reducible exact Calls.regrown_of (k1 _ _))
    | (go_at_call 52; with_reducible exact Calls.regrown_of (k2 _ _))))
  refine wpQuiet_nil ?_
  rintro _ ⟨z, rfl⟩
  have hbz := below_regrown w z.d z.os
  clear k1 k2 yb ob y1 o1 gN gR
  generalize Sort.grow (redrawn w z.d) z.os = W2 at *
  go_wp2
  go_ret
  exact ⟨rfl, hbz⟩
theorem tail_any (n k : Nat) (c e : Int) (gn ga gr gy go : Nat) (qa qb : List UInt8) (w : World) (hT : Tl n c e gn ga gr gy go w) (hn : n ≤ 50) (hk : k ≤ n + 1) (h0 : 0 ≤ c) (h1 : c ≤ e) (h2 : e ≤ 1000) (h3 : 1 ≤ e) (lq : LQ (Tb.Pq n k c (e - c)) qa qb) (hE : Env w) :
    Calls Tryz.prog 83 #[.int .i64 k, .pointer (some ⟨gn, 0, none⟩), .pointer (some ⟨ga, 0, none⟩), .pointer (some ⟨gr, 0, none⟩), .pointer (some ⟨gy, 0, none⟩), .pointer (some ⟨go, 0, none⟩)] w fun e' w' => e' = .returned (.agg #[.string ⟨qa.toArray⟩, .string ⟨qb.toArray⟩]) ∧ Below w.heap.size w w' := by
  have hbA := bNewW w (.cells #[.string ⟨#[]⟩, .string ⟨#[]⟩] 33)
  have BR := Bx.mk w 33 #[.string ⟨#[]⟩, .string ⟨#[]⟩]
  have hTA := hT.call hbA
  have hEA := hE.below hbA
  obtain ⟨sd, esd⟩ := Ix.ex (e ^ n)
  have hq : Kp (Rat.divInt (Tb.sm (Tb.tm n c (e - c)) k (n + 1 - k)) (e ^ n) = Tb.Pq n k c (e - c)) := ⟨by
    show _ = Rat.divInt (Tb.S n k c (e - c)) ((c + (e - c)) ^ n)
    rw [show c + (e - c) = e by omega]; rfl⟩
  have hrat := fun W (hW : Below (w.alloc (.cells #[.string ⟨#[]⟩, .string ⟨#[]⟩] 33)).heap.size (w.alloc (.cells #[.string ⟨#[]⟩, .string ⟨#[]⟩] 33)) W) =>
    ratio_t (Tb.tm n c (e - c)) gr gy go gn k n (e ^ n) _ sd qa qb W (fun i => Tb.tm_sz hn h0 (by omega) (by omega) (by omega) i) (by omega) hk (Int.pow_pos (by omega)) ((Tb.pow_sz (c := e) (by omega) h2 n).mono (by omega)) esd (hEA.below hW) hq lq
      (fun i s X hki hin hs hX => term_any n i c e gn ga gr gy go s X ((hTA.call hW).call hX) hn hin h0 h1 h2 hs ((hEA.below hW).below hX))
  obtain ⟨ba, oa, ca, hca, ab, ac⟩ := hTA.ha.cells
  have a1 := ac n sd (Nat.le_refl _) esd
  have gN := fun d os => (hTA.hn.again d os).cell 0 rfl
  generalize hW0 : w.alloc (.cells #[.string ⟨#[]⟩, .string ⟨#[]⟩] 33) = W0 at *
  have kr := fun d os => hrat (Sort.grow (redrawn W0 d) os) (below_regrown W0 d os)
  clear hrat ac hTA hT hE hEA esd hq lq
  go_enter Tryz.func83, Tryz.ntmps83
  go_wp2
  try rw [hW0]
  clear hW0
  refine wp_region_below_tail 8 (by kernel_rfl) (by kernel_rfl) ?_
  simp only [List.take, List.drop]
  repeat (go_big_quiet_step (first | (go_at_call 50; with_reducible exact Calls.regrown_of (kr _ _))))
  refine wpQuiet_nil ?_
  rintro _ ⟨z, rfl⟩
  have hbz := bAgain hbA z.d z.os
  replace BR := BR.again z.d z.os
  clear kr ab a1 gN hbA
  generalize Sort.grow (redrawn W0 z.d) z.os = W2 at *
  have c0 := BR.cell 0 rfl
  have c1 := BR.cell 1 rfl
  have f0 := BR.frozen 0
  have f1 := BR.frozen 1
  have B4 := (BR.set 0 (.string ⟨qa.toArray⟩)).set 1 (.string ⟨qb.toArray⟩)
  have hb4 := bSet (bSet hbz (p := ⟨w.heap.size, 0, none⟩) (Nat.le_refl _) (.string ⟨qa.toArray⟩)) (p := ⟨w.heap.size, 1, none⟩) (Nat.le_refl _) (.string ⟨qb.toArray⟩)
  go_wp2
  exact bodyPost_ret (results_Q1 rfl _ _ rfl B4) rfl ⟨rfl, hb4⟩
end Go.Proofs.YtklelhkcbdajpaaGreatDoor
namespace Go.Proofs.YtklelhkcbdajpaaGreatDoor
open Go.RowKit Go.Shelf
def chB (c e : Int) : Bool := Tp.within e 1 1000 && Tp.within c 0 e
theorem chB_iff {c e : Int} : chB c e = true ↔ 1 ≤ e ∧ e ≤ 1000 ∧ 0 ≤ c ∧ c ≤ e := by
  unfold chB
  rw [Bool.and_eq_true, Tp.within_iff, Tp.within_iff]
  omega
theorem isChance_any (c e : Int) (w : World) :
    Calls Tryz.prog 81 #[.agg #[.int .i64 c, .int .i64 e]] w fun e' w' => e' = .returned (.bool (chB c e)) ∧ Below w.heap.size w w' := by
  have hI1 := fun w0 => calls_below (isIn_any e 1 1000 w0)
  have hI2 := fun w0 => calls_below (isIn_any c 0 e w0)
  have hd : Kp (chB c e = (Tp.within e 1 1000 && Tp.within c 0 e)) := ⟨rfl⟩
  have B := Bx.mk w 23 #[.int .i64 c, .int .i64 e]
  have hb := bNew (bStart w) (.cells #[.int .i64 c, .int .i64 e] 23)
  have c0 := B.cell 0 rfl
  have c1 := B.cell 1 rfl
  generalize Tp.within c 0 e = r2 at *
  cases h1 : Tp.within e 1 1000 with
  | true =>
    rw [h1] at hI1 hd
    clear h1
    go_enter Tryz.func81, Tryz.ntmps81
    go_wp2_with fail
    refine (hI1 _).mono ?_
    rintro e w1 ⟨rfl, hb1⟩
    have d0 := (B.call hb1).cell 0 rfl
    have d1 := (B.call hb1).cell 1 rfl
    go_wp2_with fail
    refine (hI2 _).mono ?_
    rintro e w2 ⟨rfl, hb2⟩
    go_wp2
    go_ret
    exact ⟨ret_bool (by rw [hd.out]; simp), bCall (bCall hb hb1) hb2⟩
  | false =>
    rw [h1] at hI1 hd
    clear h1
    go_enter Tryz.func81, Tryz.ntmps81
    go_wp2_with fail
    refine (hI1 _).mono ?_
    rintro e w1 ⟨rfl, hb1⟩
    go_wp2
    go_ret
    exact ⟨ret_bool (by rw [hd.out]; simp), bCall hb hb1⟩
theorem tails_not (n c e : Int) (w : World) (h : ¬ (chB c e = true ∧ 0 ≤ n ∧ n ≤ 50)) :
    Calls Tryz.prog 42 #[.int .i64 n, .agg #[.int .i64 c, .int .i64 e]] w fun e' w' => e' = .returned (.tuple #[Value.nilFunc, .int .i64 350]) ∧ Below w.heap.size w w' := by
  have B0 := (Bx.mk w 3 #[.int .i64 n]).new (.cells #[.int .i64 c, .int .i64 e] 23)
  have B1 := Bx.mk (w.alloc (.cells #[.int .i64 n] 3)) 23 #[.int .i64 c, .int .i64 e]
  rw [alloc_size] at B1
  have hb := bNew (bNewW w (.cells #[.int .i64 n] 3)) (.cells #[.int .i64 c, .int .i64 e] 23)
  have hC := fun w0 => isChance_any c e w0
  have hI := fun w0 => isIn_any n 0 50 w0
  have c0 := B0.cell 0 rfl
  have c1 := B1.cell 0 rfl
  have c2 := B1.cell 1 rfl
  cases h1 : chB c e with
  | false =>
    rw [h1] at hC
    clear h1 h hI
    go_enter Tryz.func42, Tryz.ntmps42
    go_wp2_with (go_at_call 81; refine (hC _).mono ?_; rintro e w1 ⟨rfl, hb1⟩; clear hC)
    exact bodyPost_ret (results_tmp2 rfl _ _ _) rfl ⟨rfl, bCall hb hb1⟩
  | true =>
    have h2 : Tp.within n 0 50 = false := by
      cases hh : Tp.within n 0 50 with
      | false => rfl
      | true => exact absurd ⟨h1, Tp.within_iff.1 hh⟩ h
    rw [h1] at hC
    rw [h2] at hI
    clear h1 h2 h
    go_enter Tryz.func42, Tryz.ntmps42
    go_wp2_with (first | (go_at_call 81; refine (hC _).mono ?_; rintro e w1 ⟨rfl, hb1⟩; clear hC; have d0 := (B0.call hb1).cell 0 rfl) | (go_at_call 43; refine (hI _).mono ?_; rintro e w2 ⟨rfl, rfl⟩; clear hI))
    exact bodyPost_ret (results_tmp2 rfl _ _ _) rfl ⟨rfl, bCall hb hb1⟩
def FB (i : Nat) (v : Value) (w w' : World) : Prop := 17 ≤ i ∧ i ≤ 20 → v = .pointer (some ⟨w.heap.size, 0, none⟩) ∧ w.heap.size < w'.heap.size
theorem FB.no {i : Nat} {v : Value} {w w' : World} (h : i < 17) : FB i v w w' := fun e => by omega
def KA (w w' : World) : Prop := Below w.heap.size w w'
theorem cls_KA : RA.Cls KA := ⟨fun w => Below.refl _ _, fun h k => bCall h k, fun w n => ⟨rfl, rfl, rfl, Nat.le_refl _, fun _ _ => rfl⟩⟩
def PwR (a : Int) (n : Nat) : RA.Rl := fun _ v W => RowN 9 1 0 (n + 1) ((pwl a n).flatMap strC) v W
theorem stab_pw (a : Int) (n : Nat) : RA.Stab KA (PwR a n) := fun x v w w' h hb => stab_rowN _ _ _ _ _ v w w' h hb
theorem RowC.weak {e : TypeId} {size B cap n : Nat} {flat : List Value} {v : Value} {w : World} (h : RowC e size B cap n flat v w) : RowC e size 0 cap n flat v w := by
  obtain ⟨g, cells, h1, h2, h3⟩ := h
  exact ⟨g, cells, h1, Nat.zero_le _, h3⟩
theorem bx_ne {W : World} {a b : Nat} {t t' : TypeId} {cs cs' : Array Value} (h : Bx W a t cs) (h' : Bx W b t' cs') (hne : t ≠ t') : a ≠ b := by
  rintro rfl
  have e := h.symm.trans h'
  injection e with e
  injection e with e1 e2
  exact hne e2
theorem pw_of {W : World} {a : Int} {n gb cap g : Nat} {cells : Array Value} (hB : Bx W gb 61 #[.slice (some ⟨g, 0, none⟩) (n + 1) cap]) (hc : n + 1 ≤ cap) (hx : Bx W g 9 cells) (hs : cells.size = cap * 1) (hf : cells.toList.take ((n + 1) * 1) = (pwl a n).flatMap strC) : Pw a n gb W := by
  have hR : RowC 9 1 0 cap (pwl a n).length ((pwl a n).flatMap strC) (.slice (some ⟨g, 0, none⟩) (n + 1) cap) W := by
    rw [pwl_len]; exact ⟨g, cells, rfl, Nat.zero_le _, hc, hx, hs, hf⟩
  obtain ⟨A, e, h1, h2⟩ := hR.at strC_len
  rw [pwl_len] at e h2
  injection e with e1
  subst e1
  exact ⟨_, cap, hB, h1, hc⟩
def BoR (B : Nat) (t : TypeId) (cs : Array Value) : RA.Rl := fun _ v W => ∃ g, v = .pointer (some ⟨g, 0, none⟩) ∧ B ≤ g ∧ Bx W g t cs
theorem stab_bo (B : Nat) (t : TypeId) (cs : Array Value) : RA.Stab KA (BoR B t cs) := fun x v w w' ⟨g, h1, h2, h3⟩ hb => ⟨g, h1, h2, h3.call hb⟩
theorem wp_row_store {o : Oper} {a : Act} {w : World} {K : Act → World → Prop} {Q : Exit → Act → World → Prop} {x y : Operand} (ho : o.op = .store 75 x y) {g : Nat} (hx : a.eval x = .pointer (some ⟨g, 0, none⟩)) {t : TypeId} {old : Array Value} {f : Nat → List UInt8}
    (hy : a.eval y = .agg (rowC f)) (hB : Bx w g t old) (hs : old.size = 101) (h : K (a.put o.dst undef) (w.setRow g (rowC f))) : o.wp Tryz.prog a w K Q :=
  wp_store_row 75 x y ho g (rowC f) hx hy t old hB (by rw [rowC_size]; exact tri_size) (by rw [rowC_size]; exact hs) (rowC_one f) h
theorem tails_good (n : Nat) (c e : Int) (w : World) (hn : n ≤ 50) (h0 : 0 ≤ c) (h1 : c ≤ e) (h2 : e ≤ 1000) (h3 : 1 ≤ e) (hE : Env w) :
    Calls Tryz.prog 42 #[.int .i64 n, .agg #[.int .i64 c, .int .i64 e]] w fun e' w' => (∃ gn ga gr gy go, e' = .returned (.tuple #[.func (.func 83) #[] #[.pointer (some ⟨gn, 0, none⟩), .pointer (some ⟨ga, 0, none⟩), .pointer (some ⟨gr, 0, none⟩), .pointer (some ⟨gy, 0, none⟩), .pointer (some ⟨go, 0, none⟩)], .int .i64 0]) ∧ Tl n c e gn ga gr gy go w') ∧ Below w.heap.size w w' := by
  have B0 := (Bx.mk w 3 #[.int .i64 n]).new (.cells #[.int .i64 c, .int .i64 e] 23)
  have B1 := Bx.mk (w.alloc (.cells #[.int .i64 n] 3)) 23 #[.int .i64 c, .int .i64 e]
  rw [alloc_size] at B1
  have hb := bNew (bNewW w (.cells #[.int .i64 n] 3)) (.cells #[.int .i64 c, .int .i64 e] 23)
  have hC := fun w0 => isChance_any c e w0
  rw [chB_iff.2 ⟨h3, h2, h0, h1⟩] at hC
  have hI := fun w0 => isIn_any n 0 50 w0
  rw [Tp.within_iff.2 ⟨by omega, by omega⟩] at hI
  have c0 := B0.cell 0 rfl
  have c1 := B1.cell 0 rfl
  have c2 := B1.cell 1 rfl
  go_enter Tryz.func42, Tryz.ntmps42
  go_upto_region 3 with (first | (go_at_call 81; refine (hC _).mono ?_; rintro e w1 ⟨rfl, hb1⟩; clear hC; have d0 := (B0.call hb1).cell 0 rfl) | (go_at_call 43; refine (hI _).mono ?_; rintro e w2 ⟨rfl, rfl⟩; clear hI))
  replace hb := bCall hb hb1
  replace B0 := B0.call hb1
  replace B1 := B1.call hb1
  have hE1 := hE.below hb
  clear c0 c1 c2 d0 hb1 hE
  refine RA.wp_region_rgl (F := FB) cls_KA [] [RA.Eqv (.int .i64 n), RA.Eqv (.agg (rowC (pt n))), RA.Eqv (.pointer (some ⟨w.heap.size + 1, 0, none⟩)), RA.Eqv (.int .i64 c), RA.Eqv (.int .i64 n), PwR c n, RA.Eqv (.pointer (some ⟨w.heap.size + 1, 1, none⟩)), RA.Eqv (.int .i64 e), RA.Eqv (.pointer (some ⟨w.heap.size + 1, 0, none⟩)), RA.Eqv (.int .i64 c), RA.Eqv (.int .i64 (e - c)), RA.Eqv (.int .i64 n), PwR (e - c) n, RA.Eqv (.pointer (some ⟨w.heap.size + 1, 1, none⟩)), RA.Eqv (.int .i64 e), RA.Eqv (.int .i64 n), PwR e n,
    BoR w1.heap.size 75 Tryz.zeroCells75, BoR w1.heap.size 61 #[.slice none 0 0], BoR w1.heap.size 61 #[.slice none 0 0], BoR w1.heap.size 61 #[.slice none 0 0]] 21 36 (fun i => decide (17 ≤ i) && decide (i ≤ 20)) (fun _ _ h => h.size) (fun p hp v w w' h => h (by simpa using hp)) rfl rfl rfl (by kernel_rfl) (by kernel_rfl) ?_ ?_ ?_
  · simp only [RA.AllS]
    repeat' apply And.intro
    all_goals first | exact RA.stab_eqv _ | exact stab_pw _ _ | exact stab_bo _ _ _ | trivial
  · simp only [RA.UsersG, List.take, List.length]
    refine ⟨?_, ?_, ?_, ?_, ?_, ?_, ?_, ?_, ?_, ?_, ?_, ?_, ?_, ?_, ?_, ?_, ?_, ?_, ?_, ?_, ?_, trivial⟩
    all_goals (intro vs w2 hb2 hd; simp only [RA.putD, Act.put, List.nil_append, List.cons_append, List.setIfInBounds_toArray, List.set_cons_succ, List.set_cons_zero, Nat.reduceAdd])
    · have q0 := (B0.call hb2).cell 0 rfl; clear hd; go_wp2; exact ⟨Below.refl _ _, rfl, FB.no (by decide)⟩
    · have e0 := hd 0 rfl; change vs 0 = _ at e0; have hC := pascal_any n w2 (by omega) (hE1.below hb2); clear hd; rw [e0]; go_wp2_with fail
      refine hC.mono ?_
      clear hC
      rintro _ w9 ⟨rfl, hb9⟩
      go_wp2
      exact ⟨hb9, rfl, FB.no (by decide)⟩
    · clear hd; go_wp2; exact ⟨Below.refl _ _, rfl, FB.no (by decide)⟩
    · have e2 := hd 2 rfl; change vs 2 = _ at e2; have q0 := (B1.call hb2).cell 0 rfl; clear hd; rw [e2]; go_wp2; exact ⟨Below.refl _ _, rfl, FB.no (by decide)⟩
    · have q0 := (B0.call hb2).cell 0 rfl; clear hd; go_wp2; exact ⟨Below.refl _ _, rfl, FB.no (by decide)⟩
    · have e3 := hd 3 rfl; change vs 3 = _ at e3; have e4 := hd 4 rfl; change vs 4 = _ at e4; have hC := powers_any (c) n w2 (by omega) (by omega) hn (hE1.below hb2); clear hd; rw [e3, e4]; go_wp2_with fail
      refine hC.mono ?_
      clear hC
      rintro _ w9 ⟨⟨v9, rfl, cap, hr9, hm9⟩, hb9⟩
      have hr8 := hr9
      obtain ⟨x9, x8, rfl, -, -, -, -, -⟩ := hr8
      go_wp2
      exact ⟨hb9, ⟨cap, hr9.weak, hm9⟩, FB.no (by decide)⟩
    · clear hd; go_wp2; exact ⟨Below.refl _ _, rfl, FB.no (by decide)⟩
    · have e6 := hd 6 rfl; change vs 6 = _ at e6; have q0 := (B1.call hb2).cell 1 rfl; clear hd; rw [e6]; go_wp2; exact ⟨Below.refl _ _, rfl, FB.no (by decide)⟩
    · clear hd; go_wp2; exact ⟨Below.refl _ _, rfl, FB.no (by decide)⟩
    · have e8 := hd 8 rfl; change vs 8 = _ at e8; have q0 := (B1.call hb2).cell 0 rfl; clear hd; rw [e8]; go_wp2; exact ⟨Below.refl _ _, rfl, FB.no (by decide)⟩
    · have e7 := hd 7 rfl; change vs 7 = _ at e7; have e9 := hd 9 rfl; change vs 9 = _ at e9; clear hd; rw [e7, e9]; go_wp2; exact ⟨Below.refl _ _, rfl, FB.no (by decide)⟩
    · have q0 := (B0.call hb2).cell 0 rfl; clear hd; go_wp2; exact ⟨Below.refl _ _, rfl, FB.no (by decide)⟩
    · have e10 := hd 10 rfl; change vs 10 = _ at e10; have e11 := hd 11 rfl; change vs 11 = _ at e11; have hC := powers_any (e - c) n w2 (by omega) (by omega) hn (hE1.below hb2); clear hd; rw [e10, e11]; go_wp2_with fail
      refine hC.mono ?_
      clear hC
      rintro _ w9 ⟨⟨v9, rfl, cap, hr9, hm9⟩, hb9⟩
      have hr8 := hr9
      obtain ⟨x9, x8, rfl, -, -, -, -, -⟩ := hr8
      go_wp2
      exact ⟨hb9, ⟨cap, hr9.weak, hm9⟩, FB.no (by decide)⟩
    · clear hd; go_wp2; exact ⟨Below.refl _ _, rfl, FB.no (by decide)⟩
    · have e13 := hd 13 rfl; change vs 13 = _ at e13; have q0 := (B1.call hb2).cell 1 rfl; clear hd; rw [e13]; go_wp2; exact ⟨Below.refl _ _, rfl, FB.no (by decide)⟩
    · have q0 := (B0.call hb2).cell 0 rfl; clear hd; go_wp2; exact ⟨Below.refl _ _, rfl, FB.no (by decide)⟩
    · have e14 := hd 14 rfl; change vs 14 = _ at e14; have e15 := hd 15 rfl; change vs 15 = _ at e15; have hC := powers_any (e) n w2 (by omega) (by omega) hn (hE1.below hb2); clear hd; rw [e14, e15]; go_wp2_with fail
      refine hC.mono ?_
      clear hC
      rintro _ w9 ⟨⟨v9, rfl, cap, hr9, hm9⟩, hb9⟩
      have hr8 := hr9
      obtain ⟨x9, x8, rfl, -, -, -, -, -⟩ := hr8
      go_wp2
      exact ⟨hb9, ⟨cap, hr9.weak, hm9⟩, FB.no (by decide)⟩
    · clear hd; go_wp2; exact ⟨bNewW _ _, ⟨_, rfl, Below.size hb2, Bx.mk _ _ _⟩, fun _ => ⟨rfl, by rw [alloc_size]; omega⟩⟩
    · clear hd; go_wp2; exact ⟨bNewW _ _, ⟨_, rfl, Below.size hb2, Bx.mk _ _ _⟩, fun _ => ⟨rfl, by rw [alloc_size]; omega⟩⟩
    · clear hd; go_wp2; exact ⟨bNewW _ _, ⟨_, rfl, Below.size hb2, Bx.mk _ _ _⟩, fun _ => ⟨rfl, by rw [alloc_size]; omega⟩⟩
    · clear hd; go_wp2; exact ⟨bNewW _ _, ⟨_, rfl, Below.size hb2, Bx.mk _ _ _⟩, fun _ => ⟨rfl, by rw [alloc_size]; omega⟩⟩
  · intro vs W1 hba hR hne
    simp only [RA.AllR, RA.Eqv] at hR
    obtain ⟨e0, e1, e2, e3, e4, ⟨k5, ⟨x5, y5, e5, -, l5, X5, z5, f5⟩, -⟩, e6, e7, e8, e9, e10, e11, ⟨k12, ⟨x12, y12, e12, -, l12, X12, z12, f12⟩, -⟩, e13, e14, e15, ⟨k16, ⟨x16, y16, e16, -, l16, X16, z16, f16⟩, -⟩, ⟨g17, e17, b17, B17⟩, ⟨g18, e18, b18, B18⟩, ⟨g19, e19, b19, B19⟩, ⟨g20, e20, b20, B20⟩, -⟩ := hR
    have ne : ∀ i j x y, 17 ≤ i → i ≤ 20 → 17 ≤ j → j ≤ 20 → i ≠ j → vs i = .pointer (some ⟨x, 0, none⟩) → vs j = .pointer (some ⟨y, 0, none⟩) → x ≠ y := fun i j x y h1 h2 h3 h4 h5 h6 h7 h8 =>
      hne i j (by omega) (by omega) (by simp [h1, h2]) (by simp [h3, h4]) h5 (by rw [h6, h7, h8])
    have n1 := ne 17 18 _ _ (by decide) (by decide) (by decide) (by decide) (by decide) e17 e18
    have n2 := ne 17 19 _ _ (by decide) (by decide) (by decide) (by decide) (by decide) e17 e19
    have n3 := ne 17 20 _ _ (by decide) (by decide) (by decide) (by decide) (by decide) e17 e20
    have n4 := ne 18 19 _ _ (by decide) (by decide) (by decide) (by decide) (by decide) e18 e19
    have n5 := ne 18 20 _ _ (by decide) (by decide) (by decide) (by decide) (by decide) e18 e20
    have n6 := ne 19 20 _ _ (by decide) (by decide) (by decide) (by decide) (by decide) e19 e20
    replace hba : Below w1.heap.size w1 W1 := hba
    simp only [List.drop, List.take, List.map, RA.putD, Act.put, List.setIfInBounds_toArray, List.set_cons_succ, List.set_cons_zero, Nat.reduceAdd]
    rw [e0, e1, e2, e3, e4, e5, e6, e7, e8, e9, e10, e11, e12, e13, e14, e15, e16, e17, e18, e19, e20]
    have hzz := zc_size
    generalize Tryz.zeroCells75 = zc at *
    clear e0 e1 e2 e3 e4 e5 e6 e7 e8 e9 e10 e11 e12 e13 e14 e15 e16 e17 e18 e19 e20 ne hne
    refine wpList_plain rfl fun _ hK => wp_row_store rfl rfl rfl B17 hzz (hK _ _ ?_)
    have hbR := hba.trans ((below_setRow W1 (rowC (pt n)) b17).mono (Nat.le_refl _))
    have R17 := bx_setRow B17 (rowC (pt n))
    have o18 : Bx (W1.setRow g17 (rowC (pt n))) g18 61 #[.slice none 0 0] := (setRow_other _ (fun h => n1 h.symm)).trans B18
    have o19 : Bx (W1.setRow g17 (rowC (pt n))) g19 61 #[.slice none 0 0] := (setRow_other _ (fun h => n2 h.symm)).trans B19
    have o20 : Bx (W1.setRow g17 (rowC (pt n))) g20 61 #[.slice none 0 0] := (setRow_other _ (fun h => n3 h.symm)).trans B20
    have m5 : Bx (W1.setRow g17 (rowC (pt n))) x5 9 y5 := (setRow_other _ (bx_ne X5 B17 (by decide))).trans X5
    have m12 : Bx (W1.setRow g17 (rowC (pt n))) x12 9 y12 := (setRow_other _ (bx_ne X12 B17 (by decide))).trans X12
    have m16 : Bx (W1.setRow g17 (rowC (pt n))) x16 9 y16 := (setRow_other _ (bx_ne X16 B17 (by decide))).trans X16
    clear B17 B18 B19 B20 X5 X12 X16
    generalize W1.setRow g17 (rowC (pt n)) = W2 at *
    have fz0 := o18.frozen 0
    have dz0 := o18.cell 0 rfl
    have R17_0 : Bx (W2.setCell ⟨g18, 0, none⟩ (.slice (some ⟨x5, 0, none⟩) (n + 1) k5)) g17 75 (rowC (pt n)) := R17.far (p := ⟨g18, 0, none⟩) (n1) (.slice (some ⟨x5, 0, none⟩) (n + 1) k5)
    have o18_0 : Bx (W2.setCell ⟨g18, 0, none⟩ (.slice (some ⟨x5, 0, none⟩) (n + 1) k5)) g18 61 #[.slice (some ⟨x5, 0, none⟩) (n + 1) k5] := by simpa using o18.set 0 (.slice (some ⟨x5, 0, none⟩) (n + 1) k5)
    have o19_0 : Bx (W2.setCell ⟨g18, 0, none⟩ (.slice (some ⟨x5, 0, none⟩) (n + 1) k5)) g19 61 #[.slice none 0 0] := o19.far (p := ⟨g18, 0, none⟩) (fun h => n4 h.symm) (.slice (some ⟨x5, 0, none⟩) (n + 1) k5)
    have o20_0 : Bx (W2.setCell ⟨g18, 0, none⟩ (.slice (some ⟨x5, 0, none⟩) (n + 1) k5)) g20 61 #[.slice none 0 0] := o20.far (p := ⟨g18, 0, none⟩) (fun h => n5 h.symm) (.slice (some ⟨x5, 0, none⟩) (n + 1) k5)
    have m5_0 : Bx (W2.setCell ⟨g18, 0, none⟩ (.slice (some ⟨x5, 0, none⟩) (n + 1) k5)) x5 9 y5 := m5.far (p := ⟨g18, 0, none⟩) (bx_ne m5 o18 (by decide)) (.slice (some ⟨x5, 0, none⟩) (n + 1) k5)
    have m12_0 : Bx (W2.setCell ⟨g18, 0, none⟩ (.slice (some ⟨x5, 0, none⟩) (n + 1) k5)) x12 9 y12 := m12.far (p := ⟨g18, 0, none⟩) (bx_ne m12 o18 (by decide)) (.slice (some ⟨x5, 0, none⟩) (n + 1) k5)
    have m16_0 : Bx (W2.setCell ⟨g18, 0, none⟩ (.slice (some ⟨x5, 0, none⟩) (n + 1) k5)) x16 9 y16 := m16.far (p := ⟨g18, 0, none⟩) (bx_ne m16 o18 (by decide)) (.slice (some ⟨x5, 0, none⟩) (n + 1) k5)
    have hb_0 : Below w1.heap.size w1 (W2.setCell ⟨g18, 0, none⟩ (.slice (some ⟨x5, 0, none⟩) (n + 1) k5)) := hbR.setCell (p := ⟨g18, 0, none⟩) b18 (.slice (some ⟨x5, 0, none⟩) (n + 1) k5)
    have fz1 := o19_0.frozen 0
    have dz1 := o19_0.cell 0 rfl
    have R17_1 : Bx ((W2.setCell ⟨g18, 0, none⟩ (.slice (some ⟨x5, 0, none⟩) (n + 1) k5)).setCell ⟨g19, 0, none⟩ (.slice (some ⟨x12, 0, none⟩) (n + 1) k12)) g17 75 (rowC (pt n)) := R17_0.far (p := ⟨g19, 0, none⟩) (n2) (.slice (some ⟨x12, 0, none⟩) (n + 1) k12)
    have o18_1 : Bx ((W2.setCell ⟨g18, 0, none⟩ (.slice (some ⟨x5, 0, none⟩) (n + 1) k5)).setCell ⟨g19, 0, none⟩ (.slice (some ⟨x12, 0, none⟩) (n + 1) k12)) g18 61 #[.slice (some ⟨x5, 0, none⟩) (n + 1) k5] := o18_0.far (p := ⟨g19, 0, none⟩) (n4) (.slice (some ⟨x12, 0, none⟩) (n + 1) k12)
    have o19_1 : Bx ((W2.setCell ⟨g18, 0, none⟩ (.slice (some ⟨x5, 0, none⟩) (n + 1) k5)).setCell ⟨g19, 0, none⟩ (.slice (some ⟨x12, 0, none⟩) (n + 1) k12)) g19 61 #[.slice (some ⟨x12, 0, none⟩) (n + 1) k12] := by simpa using o19_0.set 0 (.slice (some ⟨x12, 0, none⟩) (n + 1) k12)
    have o20_1 : Bx ((W2.setCell ⟨g18, 0, none⟩ (.slice (some ⟨x5, 0, none⟩) (n + 1) k5)).setCell ⟨g19, 0, none⟩ (.slice (some ⟨x12, 0, none⟩) (n + 1) k12)) g20 61 #[.slice none 0 0] := o20_0.far (p := ⟨g19, 0, none⟩) (fun h => n6 h.symm) (.slice (some ⟨x12, 0, none⟩) (n + 1) k12)
    have m5_1 : Bx ((W2.setCell ⟨g18, 0, none⟩ (.slice (some ⟨x5, 0, none⟩) (n + 1) k5)).setCell ⟨g19, 0, none⟩ (.slice (some ⟨x12, 0, none⟩) (n + 1) k12)) x5 9 y5 := m5_0.far (p := ⟨g19, 0, none⟩) (bx_ne m5_0 o19_0 (by decide)) (.slice (some ⟨x12, 0, none⟩) (n + 1) k12)
    have m12_1 : Bx ((W2.setCell ⟨g18, 0, none⟩ (.slice (some ⟨x5, 0, none⟩) (n + 1) k5)).setCell ⟨g19, 0, none⟩ (.slice (some ⟨x12, 0, none⟩) (n + 1) k12)) x12 9 y12 := m12_0.far (p := ⟨g19, 0, none⟩) (bx_ne m12_0 o19_0 (by decide)) (.slice (some ⟨x12, 0, none⟩) (n + 1) k12)
    have m16_1 : Bx ((W2.setCell ⟨g18, 0, none⟩ (.slice (some ⟨x5, 0, none⟩) (n + 1) k5)).setCell ⟨g19, 0, none⟩ (.slice (some ⟨x12, 0, none⟩) (n + 1) k12)) x16 9 y16 := m16_0.far (p := ⟨g19, 0, none⟩) (bx_ne m16_0 o19_0 (by decide)) (.slice (some ⟨x12, 0, none⟩) (n + 1) k12)
    have hb_1 : Below w1.heap.size w1 ((W2.setCell ⟨g18, 0, none⟩ (.slice (some ⟨x5, 0, none⟩) (n + 1) k5)).setCell ⟨g19, 0, none⟩ (.slice (some ⟨x12, 0, none⟩) (n + 1) k12)) := hb_0.setCell (p := ⟨g19, 0, none⟩) b19 (.slice (some ⟨x12, 0, none⟩) (n + 1) k12)
    have fz2 := o20_1.frozen 0
    have dz2 := o20_1.cell 0 rfl
    have R17_2 : Bx (((W2.setCell ⟨g18, 0, none⟩ (.slice (some ⟨x5, 0, none⟩) (n + 1) k5)).setCell ⟨g19, 0, none⟩ (.slice (some ⟨x12, 0, none⟩) (n + 1) k12)).setCell ⟨g20, 0, none⟩ (.slice (some ⟨x16, 0, none⟩) (n + 1) k16)) g17 75 (rowC (pt n)) := R17_1.far (p := ⟨g20, 0, none⟩) (n3) (.slice (some ⟨x16, 0, none⟩) (n + 1) k16)
    have o18_2 : Bx (((W2.setCell ⟨g18, 0, none⟩ (.slice (some ⟨x5, 0, none⟩) (n + 1) k5)).setCell ⟨g19, 0, none⟩ (.slice (some ⟨x12, 0, none⟩) (n + 1) k12)).setCell ⟨g20, 0, none⟩ (.slice (some ⟨x16, 0, none⟩) (n + 1) k16)) g18 61 #[.slice (some ⟨x5, 0, none⟩) (n + 1) k5] := o18_1.far (p := ⟨g20, 0, none⟩) (n5) (.slice (some ⟨x16, 0, none⟩) (n + 1) k16)
    have o19_2 : Bx (((W2.setCell ⟨g18, 0, none⟩ (.slice (some ⟨x5, 0, none⟩) (n + 1) k5)).setCell ⟨g19, 0, none⟩ (.slice (some ⟨x12, 0, none⟩) (n + 1) k12)).setCell ⟨g20, 0, none⟩ (.slice (some ⟨x16, 0, none⟩) (n + 1) k16)) g19 61 #[.slice (some ⟨x12, 0, none⟩) (n + 1) k12] := o19_1.far (p := ⟨g20, 0, none⟩) (n6) (.slice (some ⟨x16, 0, none⟩) (n + 1) k16)
    have o20_2 : Bx (((W2.setCell ⟨g18, 0, none⟩ (.slice (some ⟨x5, 0, none⟩) (n + 1) k5)).setCell ⟨g19, 0, none⟩ (.slice (some ⟨x12, 0, none⟩) (n + 1) k12)).setCell ⟨g20, 0, none⟩ (.slice (some ⟨x16, 0, none⟩) (n + 1) k16)) g20 61 #[.slice (some ⟨x16, 0, none⟩) (n + 1) k16] := by simpa using o20_1.set 0 (.slice (some ⟨x16, 0, none⟩) (n + 1) k16)
    have m5_2 : Bx (((W2.setCell ⟨g18, 0, none⟩ (.slice (some ⟨x5, 0, none⟩) (n + 1) k5)).setCell ⟨g19, 0, none⟩ (.slice (some ⟨x12, 0, none⟩) (n + 1) k12)).setCell ⟨g20, 0, none⟩ (.slice (some ⟨x16, 0, none⟩) (n + 1) k16)) x5 9 y5 := m5_1.far (p := ⟨g20, 0, none⟩) (bx_ne m5_1 o20_1 (by decide)) (.slice (some ⟨x16, 0, none⟩) (n + 1) k16)
    have m12_2 : Bx (((W2.setCell ⟨g18, 0, none⟩ (.slice (some ⟨x5, 0, none⟩) (n + 1) k5)).setCell ⟨g19, 0, none⟩ (.slice (some ⟨x12, 0, none⟩) (n + 1) k12)).setCell ⟨g20, 0, none⟩ (.slice (some ⟨x16, 0, none⟩) (n + 1) k16)) x12 9 y12 := m12_1.far (p := ⟨g20, 0, none⟩) (bx_ne m12_1 o20_1 (by decide)) (.slice (some ⟨x16, 0, none⟩) (n + 1) k16)
    have m16_2 : Bx (((W2.setCell ⟨g18, 0, none⟩ (.slice (some ⟨x5, 0, none⟩) (n + 1) k5)).setCell ⟨g19, 0, none⟩ (.slice (some ⟨x12, 0, none⟩) (n + 1) k12)).setCell ⟨g20, 0, none⟩ (.slice (some ⟨x16, 0, none⟩) (n + 1) k16)) x16 9 y16 := m16_1.far (p := ⟨g20, 0, none⟩) (bx_ne m16_1 o20_1 (by decide)) (.slice (some ⟨x16, 0, none⟩) (n + 1) k16)
    have hb_2 : Below w1.heap.size w1 (((W2.setCell ⟨g18, 0, none⟩ (.slice (some ⟨x5, 0, none⟩) (n + 1) k5)).setCell ⟨g19, 0, none⟩ (.slice (some ⟨x12, 0, none⟩) (n + 1) k12)).setCell ⟨g20, 0, none⟩ (.slice (some ⟨x16, 0, none⟩) (n + 1) k16)) := hb_1.setCell (p := ⟨g20, 0, none⟩) b20 (.slice (some ⟨x16, 0, none⟩) (n + 1) k16)
    have hfin : Tl n c e w.heap.size g20 g17 g18 g19 (((W2.setCell ⟨g18, 0, none⟩ (.slice (some ⟨x5, 0, none⟩) (n + 1) k5)).setCell ⟨g19, 0, none⟩ (.slice (some ⟨x12, 0, none⟩) (n + 1) k12)).setCell ⟨g20, 0, none⟩ (.slice (some ⟨x16, 0, none⟩) (n + 1) k16)) := ⟨B0.call hb_2, R17_2, pw_of o18_2 l5 m5_2 z5 f5, pw_of o19_2 l12 m12_2 z12 f12, pw_of o20_2 l16 m16_2 z16 f16⟩
    have hbF := bCall hb hb_2
    clear R17 o18 o19 o20 m5 m12 m16 R17_0 R17_1 R17_2 o18_0 o18_1 o18_2 o19_0 o19_1 o19_2 o20_0 o20_1 o20_2 m5_0 m5_1 m5_2 m12_0 m12_1 m12_2 m16_0 m16_1 m16_2 hb_0 hb_1 hb_2 hbR B0 B1 hba f5 f12 f16 z5 z12 z16
    go_wp2
    exact bodyPost_ret (results_tmp2 rfl _ _ _) rfl ⟨⟨_, _, _, _, _, rfl, hfin⟩, hbF⟩
end Go.Proofs.YtklelhkcbdajpaaGreatDoor
namespace Go.Proofs.YtklelhkcbdajpaaGreatDoor
open Go.RowKit Go.Shelf
theorem Binomial_good (n k : Nat) (c e : Int) (qa qb : List UInt8) (w : World) (hn : n ≤ 50) (hk : k ≤ n + 1) (h0 : 0 ≤ c) (h1 : c ≤ e) (h2 : e ≤ 1000) (h3 : 1 ≤ e) (lq : LQ (Tb.Pq n k c (e - c)) qa qb) (hE : Env w) :
    Calls Tryz.prog 14 #[.int .i64 n, .int .i64 k, .agg #[.int .i64 c, .int .i64 e]] w fun e' w' => e' = .returned (.tuple #[.agg #[.string ⟨qa.toArray⟩, .string ⟨qb.toArray⟩], .int .i64 0]) ∧ Below w.heap.size w w' := by
  have B0 := (Bx.mk w 23 #[.int .i64 c, .int .i64 e]).new (.cells #[.string ⟨#[]⟩, .string ⟨#[]⟩] 33)
  have B1 := Bx.mk (w.alloc (.cells #[.int .i64 c, .int .i64 e] 23)) 33 #[.string ⟨#[]⟩, .string ⟨#[]⟩]
  rw [alloc_size] at B1
  have hb := bNew (bNewW w (.cells #[.int .i64 c, .int .i64 e] 23)) (.cells #[.string ⟨#[]⟩, .string ⟨#[]⟩] 33)
  have c0 := B0.cell 0 rfl
  have c1 := B0.cell 1 rfl
  have hC := tails_good n c e _ hn h0 h1 h2 h3 (hE.below hb)
  have hI := fun w0 => isIn_any k 0 ((n : Int) + 1) w0
  rw [Tp.within_iff.2 ⟨by omega, by omega⟩] at hI
  have hEE := fun w1 (hb1 : Below w.heap.size w w1) => hE.below hb1
  clear hE
  go_enter Tryz.func14, Tryz.ntmps14
  go_wp2_with fail
  refine hC.mono ?_
  rintro _ w1 ⟨⟨gn, ga, gr, gy, go, rfl, hT⟩, hb1⟩
  replace hb := bCall hb hb1
  replace B1 := B1.call hb1
  have hK := tail_any n k c e gn ga gr gy go qa qb w1 hT hn hk h0 h1 h2 h3 lq (hEE w1 hb)
  clear hC hb1 B0 c0 c1 hT hEE lq
  go_wp2_with (first | (go_at_call 43; refine (hI _).mono ?_; rintro e w2 ⟨rfl, rfl⟩; clear hI))
  refine hK.mono ?_
  rintro _ w2 ⟨rfl, hb2⟩
  clear hK
  have c0 := (B1.call hb2).cell 0 rfl
  have c1 := (B1.call hb2).cell 1 rfl
  have f0 := (B1.call hb2).frozen 0
  have f1 := (B1.call hb2).frozen 1
  have B4 := ((B1.call hb2).set 0 (.string ⟨qa.toArray⟩)).set 1 (.string ⟨qb.toArray⟩)
  have hb4 := bSet (bSet (bCall hb hb2) (p := ⟨w.heap.size + 1, 0, none⟩) (Nat.le_succ _) (.string ⟨qa.toArray⟩)) (p := ⟨w.heap.size + 1, 1, none⟩) (Nat.le_succ _) (.string ⟨qb.toArray⟩)
  go_wp2
  exact bodyPost_ret (results_Q rfl _ _ rfl rfl B4) rfl ⟨rfl, hb4⟩
theorem Binomial_not (n k c e : Int) (w : World) (hE : Env w) (h : ¬ (chB c e = true ∧ 0 ≤ n ∧ n ≤ 50 ∧ 0 ≤ k ∧ k ≤ n + 1)) :
    Calls Tryz.prog 14 #[.int .i64 n, .int .i64 k, .agg #[.int .i64 c, .int .i64 e]] w fun e' w' => e' = .returned (.tuple #[.agg #[.string ⟨#[]⟩, .string ⟨#[]⟩], .int .i64 350]) ∧ Below w.heap.size w w' := by
  have B0 := (Bx.mk w 23 #[.int .i64 c, .int .i64 e]).new (.cells #[.string ⟨#[]⟩, .string ⟨#[]⟩] 33)
  have B1 := Bx.mk (w.alloc (.cells #[.int .i64 c, .int .i64 e] 23)) 33 #[.string ⟨#[]⟩, .string ⟨#[]⟩]
  rw [alloc_size] at B1
  have hb := bNew (bNewW w (.cells #[.int .i64 c, .int .i64 e] 23)) (.cells #[.string ⟨#[]⟩, .string ⟨#[]⟩] 33)
  have c0 := B0.cell 0 rfl
  have c1 := B0.cell 1 rfl
  by_cases hg : chB c e = true ∧ 0 ≤ n ∧ n ≤ 50
  · obtain ⟨g1, g2, g3⟩ := hg
    obtain ⟨a1, a2, a3, a4⟩ := chB_iff.1 g1
    obtain ⟨m, rfl⟩ := Int.eq_ofNat_of_zero_le g2
    have hC := tails_good m c e _ (by omega) a3 a4 a2 a1 (hE.below hb)
    have hI := fun w0 => isIn_any k 0 ((m : Int) + 1) w0
    have h2 : Tp.within k 0 ((m : Int) + 1) = false := by
      cases hh : Tp.within k 0 ((m : Int) + 1) with
      | false => rfl
      | true => exact absurd ⟨g1, g2, g3, (Tp.within_iff.1 hh).1, (Tp.within_iff.1 hh).2⟩ h
    rw [h2] at hI
    clear h h2 g1 hE
    go_enter Tryz.func14, Tryz.ntmps14
    go_wp2_with fail
    refine hC.mono ?_
    rintro _ w1 ⟨⟨gn, ga, gr, gy, go, rfl, -⟩, hb1⟩
    replace hb := bCall hb hb1
    replace B1 := B1.call hb1
    clear hC hb1 B0 c0 c1
    have c0 := B1.cell 0 rfl
    have c1 := B1.cell 1 rfl
    have f0 := B1.frozen 0
    have f1 := B1.frozen 1
    have B4 := (B1.set 0 (.string ⟨#[]⟩)).set 1 (.string ⟨#[]⟩)
    have hb4 := bSet (bSet hb (p := ⟨w.heap.size + 1, 0, none⟩) (Nat.le_succ _) (.string ⟨#[]⟩)) (p := ⟨w.heap.size + 1, 1, none⟩) (Nat.le_succ _) (.string ⟨#[]⟩)
    go_wp2_with (first | (go_at_call 43; refine (hI _).mono ?_; rintro e w2 ⟨rfl, rfl⟩; clear hI))
    first | exact bodyPost_ret (results_Q rfl _ _ rfl rfl B4) rfl ⟨rfl, hb4⟩ | exact bodyPost_ret (results_Q rfl _ _ rfl rfl B1) rfl ⟨rfl, hb⟩
  · have hC := tails_not n c e ((w.alloc (.cells #[.int .i64 c, .int .i64 e] 23)).alloc (.cells #[.string ⟨#[]⟩, .string ⟨#[]⟩] 33)) hg
    clear h hE hg
    go_enter Tryz.func14, Tryz.ntmps14
    go_wp2_with fail
    refine hC.mono ?_
    rintro _ w1 ⟨rfl, hb1⟩
    replace hb := bCall hb hb1
    replace B1 := B1.call hb1
    clear hC hb1 B0 c0 c1
    have c0 := B1.cell 0 rfl
    have c1 := B1.cell 1 rfl
    have f0 := B1.frozen 0
    have f1 := B1.frozen 1
    have B4 := (B1.set 0 (.string ⟨#[]⟩)).set 1 (.string ⟨#[]⟩)
    have hb4 := bSet (bSet hb (p := ⟨w.heap.size + 1, 0, none⟩) (Nat.le_succ _) (.string ⟨#[]⟩)) (p := ⟨w.heap.size + 1, 1, none⟩) (Nat.le_succ _) (.string ⟨#[]⟩)
    go_wp2
    first | exact bodyPost_ret (results_Q rfl _ _ rfl rfl B4) rfl ⟨rfl, hb4⟩ | exact bodyPost_ret (results_Q rfl _ _ rfl rfl B1) rfl ⟨rfl, hb⟩
end Go.Proofs.YtklelhkcbdajpaaGreatDoor
namespace Go.Proofs.YtklelhkcbdajpaaGreatDoor
open Go.RowKit Go.Shelf
theorem row_index (f : Nat → List UInt8) {d : Nat} (h : d < 101) (W : World) : (Instr.index 75 (.agg (rowC f)) (.int .i64 d)).run Tryz.prog W = .ok (.string ⟨(f d).toArray⟩) W := by
  obtain ⟨i, z, hi, hz, hs, -, -⟩ := strI
  have hu : Tryz.prog.underlying 9 = some .string := by kernel_rfl
  have hagg : (isAgg 9).run Tryz.prog W = .ok false W := by
    unfold isAgg
    rw [Sem.run_bind, run_underlying hu W]
    rfl
  have hsz : (sizeOf 9).run Tryz.prog W = .ok 1 W := by
    simp [sizeOf, typeInfo, hi, hs, Sem.run_bind]
  have hd : (0 : Int) ≤ (d : Int) ∧ (d : Int) < ((101 : Nat) : Int) := by omega
  have hg := rowC_get f h
  simp only [Instr.index, asIntOf, Sem.run_bind, Sem.run_pure, Result.andThen_ok, run_underlying tri_under W]
  rw [if_pos hd]
  simp only [Sem.run_bind, hsz, Result.andThen_ok, part, hagg, Int.toNat_natCast, Nat.mul_one, hg]
  rfl
theorem row_stcells {W : World} {g : Nat} {t : TypeId} {old : Array Value} (f : Nat → List UInt8) (hB : Bx W g t old) (ho : old.size = 101) : (storeCells ⟨g, 0, none⟩ (rowC f).toList).run Tryz.prog W = .ok () (W.setRow g (rowC f)) := by
  have h := run_storeVar_row (P := Tryz.prog) W g t 75 old (rowC f) hB (by rw [rowC_size]; exact tri_size) (by rw [rowC_size]; exact ho) (rowC_one f)
  cases hq : Tryz.prog.info? 75 with
  | none => have := tri_size; rw [hq] at this; cases this
  | some i =>
    have hs : i.size = 101 := by have := tri_size; rw [hq] at this; simpa using this
    have hc : (Value.agg (rowC f)).cells = rowC f := rfl
    have hz : (sizeOf 75).run Tryz.prog W = .ok 101 W := by simp [sizeOf, typeInfo, hq, hs, Sem.run_bind]
    simp only [storeVar, hc, Sem.run_bind, hz, Result.andThen_ok, rowC_size, ne_eq, not_true_eq_false, if_false] at h
    exact h
structure Hl (t m d : Nat) (g1 g2 g3 : Nat) (W : World) : Prop where
  h1 : Bx W g1 75 (rowC (pt m))
  h2 : Bx W g2 75 (rowC (pt (t - m)))
  h3 : Bx W g3 3 #[.int .i64 d]
theorem Hl.call {t m d g1 g2 g3 : Nat} {W W' : World} (h : Hl t m d g1 g2 g3 W) (hb : Below W.heap.size W W') : Hl t m d g1 g2 g3 W' := ⟨h.h1.call hb, h.h2.call hb, h.h3.call hb⟩
theorem hterm_any (t m d i : Nat) (g1 g2 g3 : Nat) (s : List UInt8) (w : World) (hT : Hl t m d g1 g2 g3 w) (ht : t ≤ 100) (hm : m ≤ t) (hd : d ≤ t) (hi : i ≤ d) (hs : Ix (Tb.vt m (t - m) d i) s) (hE : Env w) :
    Calls Tryz.prog 51 #[.int .i64 i, .pointer (some ⟨g1, 0, none⟩), .pointer (some ⟨g2, 0, none⟩), .pointer (some ⟨g3, 0, none⟩)] w fun e' w' => e' = .returned (.string ⟨s.toArray⟩) ∧ Below w.heap.size w w' := by
  have e1 := pt_sum m i
  have e2 := pt_sum (t - m) (d - i)
  have gN := fun d' os => (hT.h3.again d' os).cell 0 rfl
  have gR := fun d' os => (hT.h1.again d' os).cell i (rowC_get (pt m) (by omega))
  have gS := fun d' os => (hT.h2.again d' os).cell (d - i) (rowC_get (pt (t - m)) (by omega))
  have k1 := fun d' os => times_s (Sort.grow (redrawn w d') os) e1 e2 hs ⟨rfl⟩ (Tb.ch_sz (by omega) i) (Tb.ch_sz (by omega) (d - i)) (Tb.vt_sz (by omega) (by omega) i) (by decide) (by decide) (by decide) (hE.below (below_regrown w d' os))
  obtain ⟨j, hj⟩ : ∃ j, d - i = j := ⟨_, rfl⟩
  have hdi : (d : Int) - (i : Int) = (j : Int) := by omega
  rw [hj] at gS k1
  have hj2 : j ≤ 100 := by omega
  generalize pt m i = sp at *
  generalize pt (t - m) j = sq at *
  clear hT e1 e2 hs hE hj
  go_enter Tryz.func51, Tryz.ntmps51
  go_wp2
  refine wp_region_quiet_below (by kernel_rfl) (by kernel_rfl) ?_
  repeat (go_big_quiet_step (first
    | (go_at_call 52; with_reducible exact Calls.regrown_of (k1 _ _))))
  refine wpQuiet_nil ?_
  rintro _ ⟨z, rfl⟩
  have hbz := below_regrown w z.d z.os
  clear k1 gN gR gS
  generalize Sort.grow (redrawn w z.d) z.os = W2 at *
  go_wp2
  go_ret
  exact ⟨rfl, hbz⟩
theorem Hyper_good (t m d k : Nat) (qa qb : List UInt8) (w : World) (ht : t ≤ 100) (hm : m ≤ t) (hd : d ≤ t) (hk : k ≤ d + 1) (lq : LQ (Tb.Hq t m d k) qa qb) (hE : Env w) :
    Calls Tryz.prog 16 #[.int .i64 t, .int .i64 m, .int .i64 d, .int .i64 k] w fun e' w' => e' = .returned (.tuple #[.agg #[.string ⟨qa.toArray⟩, .string ⟨qb.toArray⟩], .int .i64 0]) ∧ Below w.heap.size w w' := by
  have B0 := (Bx.mk w 3 #[.int .i64 d]).new (.cells #[.string ⟨#[]⟩, .string ⟨#[]⟩] 33)
  have B1 := Bx.mk (w.alloc (.cells #[.int .i64 d] 3)) 33 #[.string ⟨#[]⟩, .string ⟨#[]⟩]
  rw [alloc_size] at B1
  have hb := bNew (bNewW w (.cells #[.int .i64 d] 3)) (.cells #[.string ⟨#[]⟩, .string ⟨#[]⟩] 33)
  have hEA := hE.below hb
  have c0 := B0.cell 0 rfl
  have hI := fun (x y z : Int) w0 => isIn_any x y z w0
  have i1 := fun w0 => hI t 0 100 w0
  rw [Tp.within_iff.2 ⟨by omega, by omega⟩] at i1
  have i2 := fun w0 => hI m 0 t w0
  rw [Tp.within_iff.2 ⟨by omega, by omega⟩] at i2
  have i3 := fun w0 => hI d 0 t w0
  rw [Tp.within_iff.2 ⟨by omega, by omega⟩] at i3
  have i4 := fun w0 => hI k 0 ((d : Int) + 1) w0
  rw [Tp.within_iff.2 ⟨by omega, by omega⟩] at i4
  obtain ⟨tm_, htm⟩ : ∃ x, t - m = x := ⟨_, rfl⟩
  have htm2 : (t : Int) - (m : Int) = (tm_ : Int) := by omega
  have P1 := fun w1 (hb1 : Below w.heap.size w w1) => pascal_any m w1 (by omega) (hE.below hb1)
  have P2 := fun w1 (hb1 : Below w.heap.size w w1) => pascal_any tm_ w1 (by omega) (hE.below hb1)
  have P3 := fun w1 (hb1 : Below w.heap.size w w1) => pascal_any t w1 (by omega) (hE.below hb1)
  have hix := fun W => row_index (pt t) (d := d) (by omega) W
  clear hI
  generalize hW0 : (w.alloc (.cells #[.int .i64 d] 3)).alloc (.cells #[.string ⟨#[]⟩, .string ⟨#[]⟩] 33) = W0 at *
  have Q1 := P1 W0 hb
  go_enter Tryz.func16, Tryz.ntmps16
  go_upto_region 3 with (go_at_call 43; first | (with_reducible refine (i1 _).mono ?_; rintro e w1 ⟨rfl, rfl⟩; clear i1) | (with_reducible refine (i2 _).mono ?_; rintro e w1 ⟨rfl, rfl⟩; clear i2) | (with_reducible refine (i3 _).mono ?_; rintro e w1 ⟨rfl, rfl⟩; clear i3) | (with_reducible refine (i4 _).mono ?_; rintro e w1 ⟨rfl, rfl⟩; clear i4))
  clear hW0
  go_wp2_with fail
  refine Q1.mono ?_
  rintro _ w1 ⟨rfl, hb1⟩
  clear Q1 P1
  have Q2 := P2 w1 (bCall hb hb1)
  go_wp2_with fail
  refine Q2.mono ?_
  rintro _ w2 ⟨rfl, hb2⟩
  clear Q2 P2
  have hz := zc_size
  replace hb := bCall (bCall hb hb1) hb2
  replace B0 := (B0.call hb1).call hb2
  replace B1 := (B1.call hb1).call hb2
  have K10 := (Bx.mk w2 75 Tryz.zeroCells75).new (.cells Tryz.zeroCells75 75)
  have K11 := Bx.mk (w2.alloc (.cells Tryz.zeroCells75 75)) 75 Tryz.zeroCells75
  rw [alloc_size] at K11
  have hbA := bNew (bNewW w2 (.cells Tryz.zeroCells75 75)) (.cells Tryz.zeroCells75 75)
  have A0 := (B0.new (.cells Tryz.zeroCells75 75)).new (.cells Tryz.zeroCells75 75)
  have A1 := (B1.new (.cells Tryz.zeroCells75 75)).new (.cells Tryz.zeroCells75 75)
  have l0 := B0.lt
  have l1 := B1.lt
  generalize hWa : (w2.alloc (.cells Tryz.zeroCells75 75)).alloc (.cells Tryz.zeroCells75 75) = Wa at *
  have s1 := row_stcells (pt m) K10 hz
  have L11 : Bx (Wa.setRow w2.heap.size (rowC (pt m))) (w2.heap.size + 1) 75 Tryz.zeroCells75 := (setRow_other _ (by omega)).trans K11
  have s2 := row_stcells (pt tm_) L11 hz
  have M10 : Bx ((Wa.setRow w2.heap.size (rowC (pt m))).setRow (w2.heap.size + 1) (rowC (pt tm_))) w2.heap.size 75 (rowC (pt m)) := (setRow_other _ (by omega)).trans (bx_setRow K10 _)
  have M11 : Bx ((Wa.setRow w2.heap.size (rowC (pt m))).setRow (w2.heap.size + 1) (rowC (pt tm_))) (w2.heap.size + 1) 75 (rowC (pt tm_)) := bx_setRow L11 _
  have M0 : Bx ((Wa.setRow w2.heap.size (rowC (pt m))).setRow (w2.heap.size + 1) (rowC (pt tm_))) w.heap.size 3 #[.int .i64 d] := (setRow_other _ (by omega)).trans ((setRow_other _ (by omega)).trans A0)
  have M1 : Bx ((Wa.setRow w2.heap.size (rowC (pt m))).setRow (w2.heap.size + 1) (rowC (pt tm_))) (w.heap.size + 1) 33 #[.string ⟨#[]⟩, .string ⟨#[]⟩] := (setRow_other _ (by omega)).trans ((setRow_other _ (by omega)).trans A1)
  have hbM := (hb.trans (hbA.mono hb.size)).trans (((below_setRow Wa (rowC (pt m)) (Nat.le_refl _)).trans (below_setRow _ (rowC (pt tm_)) (Nat.le_succ _))).mono hb.size)
  clear K10 K11 L11 A0 A1 B0 B1 hz hbA hb1 hb2
  go_wp2_with fail
  clear s1 s2 hWa
  generalize (Wa.setRow w2.heap.size (rowC (pt m))).setRow (w2.heap.size + 1) (rowC (pt tm_)) = V at *
  have hEV := hE.below hbM
  have hq : Kp (Rat.divInt (Tb.sm (Tb.vt m (t - m) d) k (d + 1 - k)) (Tb.ch t d : Int) = Tb.Hq t m d k) := ⟨rfl⟩
  have hH : Hl t m d w2.heap.size (w2.heap.size + 1) w.heap.size V := ⟨M10, by rw [htm]; exact M11, M0⟩
  have hR := fun X (hX : Below V.heap.size V X) => ratio_h (Tb.vt m (t - m) d) w2.heap.size (w2.heap.size + 1) w.heap.size k d (Tb.ch t d) _ (pt t d) qa qb X (fun i => (Tb.vt_sz (by omega) (by omega) i).mono (by decide)) (by omega) hk (by have := Tb.ch_pos hd; omega) ((Tb.ch_sz (by omega) d).mono (by decide)) (pt_sum t d) (hEV.below hX) hq lq
    (fun i s Y hki hid hs hY => hterm_any t m d i _ _ _ s Y ((hH.call hX).call hY) ht hm hd hid hs ((hEV.below hX).below hY))
  have kr := fun x os => hR (Sort.grow (redrawn V x) os) (below_regrown V x os)
  have kp := fun x os => P3 (Sort.grow (redrawn V x) os) (bCall hbM (below_regrown V x os))
  have gN := fun x os => (M0.again x os).cell 0 rfl
  clear hR hH hq hEV P3 lq M10 M11 M0 hE hEA hb
  generalize pt t d = sp at *
  refine wp_region_below_tail 8 (by kernel_rfl) (by kernel_rfl) ?_
  simp only [List.take, List.drop]
  repeat (go_big_quiet_step (first
    | (go_at_call 49; with_reducible exact Calls.regrown_of (kp _ _))
    | (go_at_call 50; with_reducible exact Calls.regrown_of (kr _ _))))
  refine wpQuiet_nil ?_
  rintro _ ⟨z, rfl⟩
  have hbz := bAgain hbM z.d z.os
  replace M1 := M1.again z.d z.os
  clear kr kp gN hbM
  generalize Sort.grow (redrawn V z.d) z.os = W2 at *
  have c0 := M1.cell 0 rfl
  have c1 := M1.cell 1 rfl
  have f0 := M1.frozen 0
  have f1 := M1.frozen 1
  have B4 := (M1.set 0 (.string ⟨qa.toArray⟩)).set 1 (.string ⟨qb.toArray⟩)
  have hb4 := bSet (bSet hbz (p := ⟨w.heap.size + 1, 0, none⟩) (Nat.le_succ _) (.string ⟨qa.toArray⟩)) (p := ⟨w.heap.size + 1, 1, none⟩) (Nat.le_succ _) (.string ⟨qb.toArray⟩)
  go_wp2
  exact bodyPost_ret (results_Q rfl _ _ rfl rfl B4) rfl ⟨rfl, hb4⟩
end Go.Proofs.YtklelhkcbdajpaaGreatDoor
namespace Go.Proofs.YtklelhkcbdajpaaGreatDoor
open Go.RowKit Go.Shelf
theorem i64_fits' {z : Int} (h : I64 z) : Ig.fits z := by
  have h1 : z.natAbs < 10 ^ 20 := by have := h.1; have := h.2; omega
  exact Nat.lt_of_lt_of_le h1 (Nat.pow_le_pow_right (by decide) (by decide))
theorem Of_ok (n d : Int) (w : World) (hn : I64 n) (hf : I64 d) (hd : d ≠ 0) (hE : Env w) :
    Calls Tryz.prog 69 #[.int .i64 n, .int .i64 d] w fun e w' => e = .returned (.tuple #[QV (Rat.divInt n d), .int .i64 0]) ∧ Below w.heap.size w w' := by
  have hF1 := fun w0 hE0 => FromInt_any n w0 hn.1 hn.2 hE0
  have hF2 := fun w0 hE0 => FromInt_any d w0 hf.1 hf.2 hE0
  have hM := fun w0 hE0 => Make_ok n d w0 (i64_fits' hn) (i64_fits' hf) hd hE0
  unfold QV at *
  generalize Lib.itoa (Rat.divInt n d).num = sa at *
  generalize Lib.itoa ((Rat.divInt n d).den : Int) = sb at *
  generalize Lib.itoa n = sn at *
  generalize Lib.itoa d = sd at *
  have B := Bx.mk w 33 #[.string ⟨#[]⟩, .string ⟨#[]⟩]
  have hb := bNewW w (.cells #[.string ⟨#[]⟩, .string ⟨#[]⟩] 33)
  clear hd
  go_enter Tryz.func69, Tryz.ntmps69
  go_wp2_with fail
  refine (hF1 _ (hE.below hb)).mono ?_
  rintro _ w1 ⟨rfl, hb1⟩
  replace hb := bCall hb hb1
  replace B := B.call hb1
  clear hF1 hb1
  go_wp2_with fail
  refine (hF2 _ (hE.below hb)).mono ?_
  rintro _ w2 ⟨rfl, hb1⟩
  replace hb := bCall hb hb1
  replace B := B.call hb1
  clear hF2 hb1
  go_wp2_with fail
  refine (hM _ (hE.below hb)).mono ?_
  rintro _ w3 ⟨rfl, hb1⟩
  replace hb := bCall hb hb1
  replace B := B.call hb1
  clear hM hb1
  have r0 := B.cell 0 rfl
  have r1 := B.cell 1 rfl
  have f0 := B.frozen 0
  have f1 := B.frozen 1
  have B2 := (B.set 0 (.string ⟨sa.toArray⟩)).set 1 (.string ⟨sb.toArray⟩)
  have hb2 := bSet (bSet hb (p := ⟨w.heap.size, 0, none⟩) (Nat.le_refl _) (.string ⟨sa.toArray⟩)) (p := ⟨w.heap.size, 1, none⟩) (Nat.le_refl _) (.string ⟨sb.toArray⟩)
  go_wp2
  exact bodyPost_ret (results_Q rfl _ _ rfl rfl B2) rfl ⟨rfl, hb2⟩
end Go.Proofs.YtklelhkcbdajpaaGreatDoor
namespace Go.Proofs.YtklelhkcbdajpaaGreatDoor
theorem cmpZ_lt' {x y : Int} (h : x < y) : cmpZ x y = -1 := by unfold cmpZ; rw [if_pos h]
theorem cmpZ_gt' {x y : Int} (h : y < x) : cmpZ x y = 1 := by unfold cmpZ; rw [if_neg (by omega), if_pos h]
theorem cmpZ_self (x : Int) : cmpZ x x = 0 := by unfold cmpZ; rw [if_neg (by omega), if_neg (by omega)]
theorem cmpZ_swap (x y : Int) : cmpZ y x = -cmpZ x y := by unfold cmpZ; split <;> split <;> (try split) <;> (try split) <;> omega
theorem cmpZ_sub {x y u v : Int} (h : x - y = u - v) : cmpZ x y = cmpZ u v := by
  unfold cmpZ
  have e1 : x < y ↔ u < v := by omega
  have e2 : x > y ↔ u > v := by omega
  simp only [e1, e2]
theorem cf_same {n d m c : Int} (hq : n / d = m / c) : cmpZ (n * c) (m * d) = cmpZ (n % d * c) (m % c * d) := by
  apply cmpZ_sub
  have h1 := Int.mul_ediv_add_emod n d
  have h2 := Int.mul_ediv_add_emod m c
  rw [hq] at h1
  generalize m / c = q at *
  generalize n % d = r at *
  generalize m % c = s at *
  subst h1
  subst h2
  rw [Int.add_mul, Int.add_mul]
  have : d * q * c = c * q * d := by rw [Int.mul_assoc, Int.mul_comm d, Int.mul_comm q c]
  omega
theorem cf_less {n d m c : Int} (hd : 0 < d) (hc : 0 < c) (hq : n / d < m / c) : n * c < m * d := by
  have h1 := Int.lt_mul_ediv_self_add (x := n) hd
  have h2 := Int.mul_ediv_self_le (x := m) (show c ≠ 0 by omega)
  have h3 : d * (n / d) + d ≤ d * (m / c) := by
    have : d * (n / d + 1) ≤ d * (m / c) := Int.mul_le_mul_of_nonneg_left (by omega) (by omega)
    rw [Int.mul_add, Int.mul_one] at this
    exact this
  have h4 : n < d * (m / c) := by omega
  have h5 : n * c < d * (m / c) * c := Int.mul_lt_mul_of_pos_right h4 hc
  have h6 : c * (m / c) * d ≤ m * d := Int.mul_le_mul_of_nonneg_right h2 (by omega)
  have h7 : d * (m / c) * c = c * (m / c) * d := by rw [Int.mul_assoc, Int.mul_comm d, Int.mul_comm (m / c) c]
  omega
theorem cf_lt {n d m c : Int} (hd : 0 < d) (hc : 0 < c) (hq : n / d < m / c) : cmpZ (n * c) (m * d) = -1 := cmpZ_lt' (cf_less hd hc hq)
theorem cf_gt {n d m c : Int} (hd : 0 < d) (hc : 0 < c) (hq : m / c < n / d) : cmpZ (n * c) (m * d) = 1 := cmpZ_gt' (cf_less hc hd hq)
theorem cf_00 {n d m c : Int} (hq : n / d = m / c) (hr : n % d = 0) (hs : m % c = 0) : cmpZ (n * c) (m * d) = 0 := by
  rw [cf_same hq, hr, hs, Int.zero_mul, Int.zero_mul]; exact cmpZ_self 0
theorem cf_0s {n d m c : Int} (hd : 0 < d) (hc : 0 < c) (hq : n / d = m / c) (hr : n % d = 0) (hs : m % c ≠ 0) : cmpZ (n * c) (m * d) = -1 := by
  have h := Int.emod_nonneg m (show c ≠ 0 by omega)
  have h2 : 0 < m % c * d := Int.mul_pos (by omega) hd
  rw [cf_same hq, hr, Int.zero_mul, cmpZ_lt' h2]
theorem cf_r0 {n d m c : Int} (hd : 0 < d) (hc : 0 < c) (hq : n / d = m / c) (hr : n % d ≠ 0) (hs : m % c = 0) : cmpZ (n * c) (m * d) = 1 := by
  have h := Int.emod_nonneg n (show d ≠ 0 by omega)
  have h2 : 0 < n % d * c := Int.mul_pos (by omega) hc
  rw [cf_same hq, hs, Int.zero_mul, cmpZ_gt' h2]
theorem cf_turn {n d m c : Int} (hq : n / d = m / c) : cmpZ (n * c) (m * d) = -cmpZ (d * (m % c)) (c * (n % d)) := by
  rw [cf_same hq, cmpZ_swap, Int.mul_comm (m % c) d, Int.mul_comm (n % d) c]
theorem emod_small {n d : Int} (hd : 0 < d) (hr : n % d ≠ 0) : 0 < n % d ∧ (n % d).toNat < d.toNat := by
  have h1 := Int.emod_nonneg n (show d ≠ 0 by omega)
  have h2 := Int.emod_lt_of_pos n hd
  omega
end Go.Proofs.YtklelhkcbdajpaaGreatDoor
