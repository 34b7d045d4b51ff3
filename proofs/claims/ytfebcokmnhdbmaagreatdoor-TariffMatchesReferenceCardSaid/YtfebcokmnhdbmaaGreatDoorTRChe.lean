/- Cheapest of dialtoneref37, and of package tariff where the input is not good. -/
import Derived.Test.YtfebcokmnhdbmaaGreatDoorTRSum
import Derived.Test.YtfebcokmnhdbmaaGreatDoorQ07
namespace Go.Proofs.YtfebcokmnhdbmaaGreatDoor
set_option linter.unusedVariables false
set_option linter.unusedSimpArgs false
open Go.RowKit Go.Shelf
/-- the beginnings up to t - 1 have been looked at -/
structure ChR (f : Int → Int) (a n t now best at_ : Int) : Prop where
  w : now = Tp.win f n (t - 1)
  v : best = Tp.win f n at_
  lo : a ≤ at_
  hi : at_ ≤ t - 1
  le : ∀ u, a ≤ u → u ≤ t - 1 → Tp.win f n at_ < Tp.win f n u ∨ (Tp.win f n at_ = Tp.win f n u ∧ at_ ≤ u)
theorem ChR.start (f : Int → Int) (a n y : Int) (h : Tp.sumF f a (a + n) = y) : ChR f a n (a + 1) y y a := by
  have e : a + 1 - 1 = a := by omega
  refine ⟨by rw [e]; exact h.symm, h.symm, Int.le_refl _, by omega, fun u h1 h2 => ?_⟩
  have : u = a := by omega
  subst this
  exact .inr ⟨rfl, Int.le_refl _⟩
theorem ChR.next {f : Int → Int} {a n t now best at_ : Int} (h : ChR f a n t now best at_) (hn : 0 ≤ n) : now - f (t - 1) + f (t + n - 1) = Tp.win f n t := by
  have h1 := Tp.win_step f (n := n) (t := t - 1) hn
  rw [show t - 1 + 1 = t by omega, show t - 1 + n = t + n - 1 by omega] at h1
  have := h.w
  omega
theorem ChR.keep {f : Int → Int} {a n t now best at_ y : Int} (h : ChR f a n t now best at_) (hy : y = Tp.win f n t) (hb : ¬ y < best) : ChR f a n (t + 1) y best at_ := by
  have e : t + 1 - 1 = t := by omega
  refine ⟨by rw [e]; exact hy, h.v, h.lo, by have := h.hi; omega, fun u h1 h2 => ?_⟩
  rcases Int.lt_or_le u t with hu | hu
  · exact h.le u h1 (by omega)
  · have : u = t := by omega
    subst this
    have := h.v; have := h.hi
    omega
theorem ChR.take {f : Int → Int} {a n t now best at_ y : Int} (h : ChR f a n t now best at_) (hy : y = Tp.win f n t) (hb : y < best) : ChR f a n (t + 1) y y t := by
  have e : t + 1 - 1 = t := by omega
  refine ⟨by rw [e]; exact hy, hy, by have := h.lo; have := h.hi; omega, by omega, fun u h1 h2 => ?_⟩
  rcases Int.lt_or_le u t with hu | hu
  · have := h.le u h1 (by omega); have := h.v; left; omega
  · have : u = t := by omega
    subst this; exact .inr ⟨rfl, Int.le_refl _⟩
theorem ChR.done {base : Int} {L : List Tp.Rate} (hok : ∀ r ∈ L, Tp.Ok r) {off a b n t now best at_ : Int} (h : ChR (Tp.price base L off) a n t now best at_) (hn : 1 ≤ n) (hb : n ≤ b - a) (ht : t = b - n + 1) : Tp.cheapest base L (Tp.cutsOf L) off a b n = (at_, best) := by
  obtain ⟨h1, h2, h3, h4⟩ := Tp.cheapest_least (Tp.cuts_of hok) (base := base) hok (off := off) hn hb
  have e := Tp.cheap_unique (W := Tp.win (Tp.price base L off) n) (A := a) (B := b - n) ⟨h2, h3, h4⟩ ⟨h.lo, by have := h.hi; omega, fun u u1 u2 => h.le u u1 (by omega)⟩
  refine Prod.ext e ?_
  rw [h1, e]; exact h.v.symm
def cheapR (base : Int) (l : List Tp.Rate) (off a b n : Int) : Int × Int × Int :=
  if good base l off a b && (!decide (b - a > 100000) && Tp.within n 1 (b - a)) then ((Tp.cheapest base l (Tp.cutsOf l) off a b n).1, (Tp.cheapest base l (Tp.cutsOf l) off a b n).2, 0) else (0, 0, 370)
theorem cheapR_yes {base : Int} {l : List Tp.Rate} {off a b n : Int} (h1 : good base l off a b = true) (h2 : ¬ b - a > 100000) (h3 : Tp.within n 1 (b - a) = true) : cheapR base l off a b n = ((Tp.cheapest base l (Tp.cutsOf l) off a b n).1, (Tp.cheapest base l (Tp.cutsOf l) off a b n).2, 0) := by
  unfold cheapR
  rw [h1, h3]
  simp [h2]
theorem cheapR_no1 {base : Int} {l : List Tp.Rate} {off a b n : Int} (h1 : good base l off a b = false) : cheapR base l off a b n = (0, 0, 370) := by
  unfold cheapR; rw [h1]; rfl
theorem cheapR_no2 {base : Int} {l : List Tp.Rate} {off a b n : Int} (h2 : b - a > 100000) : cheapR base l off a b n = (0, 0, 370) := by
  unfold cheapR; simp [h2]
theorem cheapR_no3 {base : Int} {l : List Tp.Rate} {off a b n : Int} (h3 : Tp.within n 1 (b - a) = false) : cheapR base l off a b n = (0, 0, 370) := by
  unfold cheapR; simp [h3]
set_option maxRecDepth 100000 in
set_option maxHeartbeats 8000000 in
theorem rCheapest_any (base : Int) (L : List Tp.Rate) (A : Option Addr) (cap : Nat) (off a b n : Int) (w : World) (hT : Tar w base L A cap) :
    Calls Tryz.prog 38 #[.agg #[.slice A L.length cap, .int .i64 base], .int .i64 off, .agg #[.int .i64 a, .int .i64 b], .int .i64 n] w fun e w' => e = .returned (.tuple #[.int .i64 (cheapR base L off a b n).1, .int .i64 (cheapR base L off a b n).2.1, .int .i64 (cheapR base L off a b n).2.2]) ∧ Below w.heap.size w w' := by
  have hb := bNew (bNewW w (.cells #[.slice A L.length cap, .int .i64 base] 26)) (.cells #[.int .i64 a, .int .i64 b] 28)
  have BX := (Bx.mk w 26 #[.slice A L.length cap, .int .i64 base]).new (.cells #[.int .i64 a, .int .i64 b] 28)
  have BS := Bx.mk (w.alloc (.cells #[.slice A L.length cap, .int .i64 base] 26)) 28 #[.int .i64 a, .int .i64 b]
  rw [alloc_size] at BS
  have hT1 := hT.call hb
  have hG := rgood_any base L A cap off a b _ hT1.at_ hT.cap hT.len
  have c0 := BX.cell 0 rfl
  have c1 := BX.cell 1 rfl
  have c2 := BS.cell 0 rfl
  have c3 := BS.cell 1 rfl
  cases hg : good base L off a b with
  | false =>
    rw [hg] at hG
    rw [cheapR_no1 hg]
    go_enter Tryz.func38, Tryz.ntmps38
    go_wp2_with (go_at_call 58; refine hG.mono ?_; rintro e w1 ⟨rfl, hb1⟩; clear hG)
    refine bodyPost_ret (results_tmp3 rfl _ _ _) rfl ⟨rfl, bCall hb hb1⟩
  | true =>
    rw [hg] at hG
    obtain ⟨g1, g2, g3, g4, g5⟩ := good_iff.1 hg
    by_cases hw : b - a > 100000
    · have t1 : decide (b - a > 100000) = true := by simp; omega
      rw [cheapR_no2 hw]
      go_enter Tryz.func38, Tryz.ntmps38
      go_wp2_with (go_at_call 58; refine hG.mono ?_; rintro e w1 ⟨rfl, hb1⟩; clear hG; have k0 := (BS.call hb1).cell 0 rfl; have k1 := (BS.call hb1).cell 1 rfl)
      refine bodyPost_ret (results_tmp3 rfl _ _ _) rfl ⟨rfl, bCall hb hb1⟩
    · have t1 : decide (b - a > 100000) = false := by simp; omega
      have hI := fun w0 => rin_any n 1 (b - a) w0
      cases hn : Tp.within n 1 (b - a) with
      | false =>
        rw [hn] at hI
        rw [cheapR_no3 hn]
        go_enter Tryz.func38, Tryz.ntmps38
        go_wp2_with (first | (go_at_call 58; refine hG.mono ?_; rintro e w1 ⟨rfl, hb1⟩; clear hG; have k0 := (BS.call hb1).cell 0 rfl; have k1 := (BS.call hb1).cell 1 rfl) | (go_at_call 50; refine (hI _).mono ?_; rintro e w2 ⟨rfl, rfl⟩; clear hI))
        refine bodyPost_ret (results_tmp3 rfl _ _ _) rfl ⟨rfl, bCall hb hb1⟩
      | true =>
        rw [hn] at hI
        rw [cheapR_yes hg hw hn]
        obtain ⟨n1, n2⟩ := Tp.within_iff.1 hn
        have hok := (Tp.valid_iff.1 g1).2.2
        have hS := fun w0 (hb0 : Below ((w.alloc (.cells #[.slice A L.length cap, .int .i64 base] 26)).alloc (.cells #[.int .i64 a, .int .i64 b] 28)).heap.size ((w.alloc (.cells #[.slice A L.length cap, .int .i64 base] 26)).alloc (.cells #[.int .i64 a, .int .i64 b] 28)) w0) => tsum_any base L A cap off a (a + n) w0 (hT1.call hb0) g1 g2 g3 (by omega) (by omega)
        obtain ⟨y, hy⟩ := exK (Tp.sumF (Tp.price base L off) a (a + n))
        rw [hy.out] at hS
        have hR0 := ChR.start (Tp.price base L off) a n y hy.out
        have hfin := Kp.mk (fun t now best at_ (h : ChR (Tp.price base L off) a n t now best at_) ht => h.done hok n1 n2 ht)
        have hpr := Kp.mk (fun w0 t (h : Tar w0 base L A cap) ht => rprice_any base L A cap off t w0 h.at_ h.cap h.len hok g2 ht)
        have hpb := Kp.mk (fun t => Tp.price_bound g1 off t)
        have hyb := sumF_bound g1 off a (a + n) (by omega)
        have hwb := Kp.mk (fun t => sumF_bound g1 off t (t + n) (by omega))
        rw [hy.out] at hyb
        generalize Tp.cheapest base L (Tp.cutsOf L) off a b n = r at *
        generalize Tp.price base L off = f at *
        replace hok := Kp.mk hok
        go_enter Tryz.func38, Tryz.ntmps38
        go_wp2_with (first | (go_at_call 58; refine hG.mono ?_; rintro e w1 ⟨rfl, hb1⟩; clear hG; have k0 := (BS.call hb1).cell 0 rfl; have k1 := (BS.call hb1).cell 1 rfl; have k2 := (BX.call hb1).cell 0 rfl; have k3 := (BX.call hb1).cell 1 rfl) | (go_at_call 50; refine (hI _).mono ?_; rintro e w2 ⟨rfl, rfl⟩; clear hI) | (go_at_call 59; refine (hS _ hb1).mono ?_; rintro e w3 ⟨rfl, hb3⟩; have j0 := ((BS.call hb1).call hb3).cell 0 rfl; have j1 := ((BS.call hb1).call hb3).cell 1 rfl))
        have BXl := (BX.call hb1).call hb3
        have BSl := (BS.call hb1).call hb3
        have hTl := (hT1.call hb1).call hb3
        have hbl := bCall (bCall hb hb1) hb3
        clear hS c0 c1 c2 c3 k0 k1 k2 k3 j0 j1 hb1 hb3 hT1 BX BS hb hT
        go_loopw [11, 12, 13, 14] (fun s11 s12 s13 s14 wr => ∃ (t now best at_ : Int), s11 = .int .i64 now ∧ s12 = .int .i64 best ∧ s13 = .int .i64 at_ ∧ s14 = .int .i64 t ∧ ChR f a n t now best at_ ∧ t ≤ b - n + 1 ∧ Below w3.heap.size w3 wr) (fun _ _ _ s14 _ => (b - n + 2 - intOf s14).toNat)
        case atStart => exact ⟨a + 1, y, y, a, rfl, rfl, rfl, rfl, hR0, by omega, Below.refl _ _⟩
        case round =>
          clear hR0
          obtain ⟨t, now, best, at_, rfl, rfl, rfl, rfl, hR, htb, hbw⟩ := hrel
          have hta : a + 1 ≤ t := by have := hR.lo; have := hR.hi; omega
          have s1 := (BSl.call hbw).cell 1 rfl
          have s0 := (BSl.call hbw).cell 0 rfl
          by_cases hlt : t + n ≤ b
          · have tt : decide (t + n ≤ b) = true := by simp; omega
            have hnx := hR.next (by omega)
            have q1 := hpb.out (t - 1)
            have q2 := hpb.out (t + n - 1)
            have q3 := hwb.out (t - 1)
            have q4 := hwb.out t
            have hw1 := hR.w
            have e3 : Tp.win f n (t - 1) = Tp.sumF f (t - 1) (t - 1 + n) := rfl
            have e4 : Tp.win f n t = Tp.sumF f t (t + n) := rfl
            rw [← e3, ← hw1] at q3
            rw [← e4, ← hnx] at q4
            have kp := fun d os => hpr.out (Sort.grow (redrawn wr d) os) (t - 1) ((hTl.call hbw).call (below_regrown wr d os)) (by omega)
            have kq := fun d os => hpr.out (Sort.grow (redrawn wr d) os) (t + n - 1) ((hTl.call hbw).call (below_regrown wr d os)) (by omega)
            have x0 := fun d os => ((BXl.call hbw).again d os).cell 0 rfl
            have x1 := fun d os => ((BXl.call hbw).again d os).cell 1 rfl
            clear hw1 e3 e4
            have hbs : 0 ≤ best ∧ best ≤ 1000000 * 100000000 := by
              have := hwb.out at_
              have e : Tp.win f n at_ = Tp.sumF f at_ (at_ + n) := rfl
              rw [← e, ← hR.v] at this
              omega
            replace hnx := Kp.mk hnx
            generalize f (t - 1) = p1 at *
            generalize f (t + n - 1) = p2 at *
            go_upto_region 11 with fail
            refine wp_region_quiet_below (by kernel_rfl) (by kernel_rfl) ?_
            repeat (go_big_quiet_step (first | (go_at_call 55; first | with_reducible exact Calls.regrown_of (kp _ _) | with_reducible exact Calls.regrown_of (kq _ _))))
            refine wpQuiet_nil ?_
            rintro _ ⟨q, rfl⟩
            have hbE := hbw.trans ((below_regrown wr q.d q.os).mono hbw.size)
            clear kp kq x0 x1 s0 s1 tt
            by_cases hless : now - p1 + p2 < best
            · have tl : decide (now - p1 + p2 < best) = true := by simp; omega
              have hR2 := hR.take hnx.out hless
              go_wp2
              exact ⟨⟨t + 1, _, _, _, rfl, rfl, rfl, rfl, hR2, by omega, hbE⟩, by simp [intOf]; omega⟩
            · have tl : decide (now - p1 + p2 < best) = false := by simp; omega
              have hR2 := hR.keep hnx.out hless
              go_wp2
              exact ⟨⟨t + 1, _, _, _, rfl, rfl, rfl, rfl, hR2, by omega, hbE⟩, by simp [intOf]; omega⟩
          · have tt : decide (t + n ≤ b) = false := by simp; omega
            obtain rfl : r = (at_, best) := hfin.out t now best at_ hR (by omega)
            have hfb := bCall hbl hbw
            clear hR
            go_wp2
            refine bodyPost_ret (results_tmp3 rfl _ _ _) rfl ⟨rfl, hfb⟩
set_option maxRecDepth 100000 in
set_option maxHeartbeats 8000000 in
theorem Cheapest_any (base : Int) (L : List Tp.Rate) (A : Option Addr) (cap : Nat) (off a b n : Int) (w : World) (hT : Tar w base L A cap) :
    Calls Tryz.prog 37 #[.agg #[.slice A L.length cap, .int .i64 base], .int .i64 off, .agg #[.int .i64 a, .int .i64 b], .int .i64 n] w fun e w' => e = .returned (.tuple #[.int .i64 (cheapR base L off a b n).1, .int .i64 (cheapR base L off a b n).2.1, .int .i64 (cheapR base L off a b n).2.2]) ∧ Below w.heap.size w w' := by
  have b1 := bNewW w (.cells #[.slice A L.length cap, .int .i64 base] 26)
  have b2 := bNew b1 (.cells #[.int .i64 off] 3)
  have b3 := bNew b2 (.cells #[.int .i64 a, .int .i64 b] 28)
  have hb := bNew b3 (.cells #[.int .i64 n] 3)
  have BX := (((Bx.mk w 26 #[.slice A L.length cap, .int .i64 base]).new (.cells #[.int .i64 off] 3)).new (.cells #[.int .i64 a, .int .i64 b] 28)).new (.cells #[.int .i64 n] 3)
  have BO := ((Bx.mk (w.alloc (.cells #[.slice A L.length cap, .int .i64 base] 26)) 3 #[.int .i64 off]).new (.cells #[.int .i64 a, .int .i64 b] 28)).new (.cells #[.int .i64 n] 3)
  rw [alloc_size] at BO
  have BS := (Bx.mk ((w.alloc (.cells #[.slice A L.length cap, .int .i64 base] 26)).alloc (.cells #[.int .i64 off] 3)) 28 #[.int .i64 a, .int .i64 b]).new (.cells #[.int .i64 n] 3)
  rw [alloc_size, alloc_size] at BS
  have BN := Bx.mk (((w.alloc (.cells #[.slice A L.length cap, .int .i64 base] 26)).alloc (.cells #[.int .i64 off] 3)).alloc (.cells #[.int .i64 a, .int .i64 b] 28)) 3 #[.int .i64 n]
  rw [alloc_size, alloc_size, alloc_size] at BN
  have hG := good_any base L A cap off a b _ (hT.call hb)
  have c0 := BX.cell 0 rfl
  have c1 := BX.cell 1 rfl
  have c2 := BO.cell 0 rfl
  have c3 := BS.cell 0 rfl
  have c4 := BS.cell 1 rfl
  have c5 := BN.cell 0 rfl
  clear b1 b2 b3
  cases hg : good base L off a b with
  | false =>
    rw [hg] at hG
    rw [cheapR_no1 hg]
    clear hg
    refine (callsIn_wide (n := 3)).1 ?_
    refine callsIn_of_wp_marks Tryz.func37 rfl trivial ?_ rfl
    simp only [Tryz.ntmps37, List.size_toArray, List.length_cons, List.length_nil, Nat.reduceAdd, Nat.reduceSub, Array.replicate_succ, Array.replicate_zero, List.push_toArray, List.append_toArray, List.nil_append, List.cons_append]
    refine wpIn_wide.2 ?_
    go_wp2_with (go_at_call 56; refine hG.mono ?_; rintro e w1 ⟨rfl, hb1⟩; clear hG)
    exact ⟨_, results_tmp3 rfl _ _ _, rfl, bCall hb hb1⟩
  | true =>
    by_cases hw : b - a > 100000
    · obtain ⟨g1, g2, g3, g4, g5⟩ := good_iff.1 hg
      have t1 : decide (100000 < b - a) = true := by simp; omega
      rw [hg] at hG
      rw [cheapR_no2 hw]
      clear hg
      refine (callsIn_wide (n := 3)).1 ?_
      refine callsIn_of_wp_marks Tryz.func37 rfl trivial ?_ rfl
      simp only [Tryz.ntmps37, List.size_toArray, List.length_cons, List.length_nil, Nat.reduceAdd, Nat.reduceSub, Array.replicate_succ, Array.replicate_zero, List.push_toArray, List.append_toArray, List.nil_append, List.cons_append]
      refine wpIn_wide.2 ?_
      go_wp2_with (go_at_call 56; refine hG.mono ?_; rintro e w1 ⟨rfl, hb1⟩; clear hG; have k0 := (BX.call hb1).cell 0 rfl; have k1 := (BX.call hb1).cell 1 rfl; have k2 := (BO.call hb1).cell 0 rfl; have k3 := (BS.call hb1).cell 0 rfl; have k4 := (BS.call hb1).cell 1 rfl; have k5 := (BN.call hb1).cell 0 rfl)
      exact ⟨_, results_tmp3 rfl _ _ _, rfl, bCall hb hb1⟩
    · cases hn : Tp.within n 1 (b - a) with
      | false =>
        obtain ⟨g1, g2, g3, g4, g5⟩ := good_iff.1 hg
        have t1 : decide (100000 < b - a) = false := by simp; omega
        have hI := fun w0 => isIn_any n 1 (b - a) w0
        rw [hg] at hG
        rw [hn] at hI
        rw [cheapR_no3 hn]
        clear hg
        refine (callsIn_wide (n := 3)).1 ?_
        refine callsIn_of_wp_marks Tryz.func37 rfl trivial ?_ rfl
        simp only [Tryz.ntmps37, List.size_toArray, List.length_cons, List.length_nil, Nat.reduceAdd, Nat.reduceSub, Array.replicate_succ, Array.replicate_zero, List.push_toArray, List.append_toArray, List.nil_append, List.cons_append]
        refine wpIn_wide.2 ?_
        go_wp2_with (first | (go_at_call 56; refine hG.mono ?_; rintro e w1 ⟨rfl, hb1⟩; clear hG; have k0 := (BX.call hb1).cell 0 rfl; have k1 := (BX.call hb1).cell 1 rfl; have k2 := (BO.call hb1).cell 0 rfl; have k3 := (BS.call hb1).cell 0 rfl; have k4 := (BS.call hb1).cell 1 rfl; have k5 := (BN.call hb1).cell 0 rfl) | (go_at_call 48; refine (hI _).mono ?_; rintro e w2 ⟨rfl, rfl⟩; clear hI))
        exact ⟨_, results_tmp3 rfl _ _ _, rfl, bCall hb hb1⟩
      | true =>
        obtain ⟨n1, n2⟩ := Tp.within_iff.1 hn
        rw [cheapR_yes hg hw hn]
        exact Cheapest_good base L A cap off a b n w hT hg (by omega) n1 n2
end Go.Proofs.YtfebcokmnhdbmaaGreatDoor
