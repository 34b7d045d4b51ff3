/- ForwardPays. -/
import Derived.Test.YtlmnmeppgigjnaaGreatDoorQ08
import Derived.Test.YtlmnmeppgigjnaaGreatDoorQ09
namespace Go.Proofs.YtlmnmeppgigjnaaGreatDoor
set_option linter.unusedVariables false
set_option linter.unusedSimpArgs false
open Go.RowKit Go.Shelf
attribute [local go_sem] Oper.semAt_some
theorem At.drop1 {α : Type} {f : α → List Value} {w : World} {B b off : Nat} {x : α} {p : List α} (h : At 1 f w B (some ⟨b, off, none⟩) (x :: p)) : At 1 f w B (some ⟨b, off + 1, none⟩) p := h.dropX 1
theorem At.some1 {α : Type} {f : α → List Value} {size B : Nat} {w : World} {A : Option Addr} {p : List α} (h : At size f w B A p) (hp : 0 < p.length) : ∃ b off, A = some ⟨b, off, none⟩ ∧ b < B := by
  obtain ⟨b, off, e, hb, -⟩ := h hp
  exact ⟨b, off, e, hb⟩
set_option maxRecDepth 100000 in
set_option maxHeartbeats 4000000 in
theorem forwardPays_any (x : List Tw.X5) (A : Option Addr) (cap : Nat) (c n t : Int) (w : World) (hA : At 5 x5C w w.heap.size A x) (hn : x.length ≤ cap) (hlen : x.length ≤ maxLen) (hx : ∀ c ∈ x, I6 c.a ∧ I6 c.b ∧ I6 c.c ∧ I6 c.d ∧ I6 c.e) (hc : I6 c) (hn6 : I6 n) (ht6 : I6 t) :
    Calls Tryz.prog 8 #[.slice A x.length cap, .int .i64 c, .int .i64 n, .int .i64 t] w fun e w' => e = .returned (.bool true) ∧ Below w.heap.size w w' := by
  have hpn := fun w0 => lpick_any n 9 (by decide) hn6 w0
  have hpt := fun w0 => lpick_any t 120 (by decide) ht6 w0
  obtain ⟨n0, n9⟩ := Tw.pick_in n (n := 9) (by decide)
  obtain ⟨t0, t9⟩ := Tw.pick_in t (n := 120) (by decide)
  generalize Tw.pick n 9 = pn at *
  generalize Tw.pick t 120 = tt at *
  have hva := Tw.made_va x
  have hsm := Tw.made_sm x
  have hl16 := Tw.made_len x
  obtain ⟨hvc, hcr, hq8⟩ := Tw.conds_ok c
  have hMd := fun w0 hA0 => rMade_any x A cap w0 hA0 hn hlen hx
  have hCd := fun w0 => conds_any c hc w0
  generalize Tw.made x = l at *
  generalize Tw.conds c = q at *
  have hEn := Tw.enL (l := l) (c := q) (t := tt) (n := 10 + pn) hsm hvc ⟨by omega, by omega⟩
  have hok : rsB l q (10 + pn) tt := ⟨hva, by omega, hvc, ⟨by omega, by omega⟩, by omega, by omega⟩
  obtain ⟨hr1, hr2⟩ := res_t hok
  obtain ⟨r, hr⟩ := exKx (Tw.route l q (10 + pn) tt)
  rw [hr.out] at hEn hr1
  have hlenr := Kp.mk hEn.len
  have hu5 := hEn.u5
  replace hr1 := Kp.mk hr1
  replace hr2 := Kp.mk hr2
  replace hva := Kp.mk hva
  clear hEn hr hok hsm hcr hvc hc hn6 ht6
  go_enter Tryz.func8, Tryz.ntmps8
  go_wp2_with fail
  refine (sane_any _).mono ?_
  rintro _ w1 ⟨rfl, hb⟩
  go_wp2_with fail
  refine (hMd _ (hA.callx hb)).mono ?_
  rintro _ w2 ⟨⟨vl, rfl, hrow⟩, hb1⟩
  replace hb := bCall hb hb1
  obtain ⟨AL, cl, rfl, hL, hlc, -⟩ := RowZ.at (p := l) (f := stC) (fun _ => rfl) hrow
  clear hMd hA hn hlen hx hrow hb1
  go_wp2_with fail
  refine (hCd _).mono ?_
  rintro _ w3 ⟨vq, rfl, hb1, hrowq⟩
  replace hb := bCall hb hb1
  replace hL := hL.callx hb1
  obtain ⟨AQ, cq, rfl, hQ, hqc, -⟩ := RowZ.at (p := q) (f := cdC) (fun _ => rfl) hrowq
  clear hCd hrowq hb1
  go_wp2_with fail
  refine (hpn _).mono ?_
  rintro _ _ ⟨rfl, rfl⟩
  clear hpn
  go_wp2_with fail
  refine (hpt _).mono ?_
  rintro _ _ ⟨rfl, rfl⟩
  clear hpt
  have hR := resolve_any l AL cl q AQ cq (10 + pn) tt w3 hL hlc (by omega) hQ hqc (by omega)
  rw [hr1.out, hr2.out] at hR
  go_wp2_with fail
  refine hR.mono ?_
  rintro _ w4 ⟨vr, rfl, hb1, hro⟩
  replace hb := bCall hb hb1
  clear hR hb1 hL hQ
  have hQ4 := hro.q
  obtain ⟨P, pc, U, uc, rfl, hP, hU, hPc, hUc, hPm, hUm⟩ := hro
  have B := Bx.mk w4 31 #[.int .i64 r.kind, .slice P r.path.length pc, .slice U r.used.length uc]
  have hbn := bNx w4 (.cells #[.int .i64 r.kind, .slice P r.path.length pc, .slice U r.used.length uc] 31)
  replace hb := bCall hb hbn
  replace hP := hP.callx hbn
  replace hQ4 := hQ4.call hbn
  go_upto_region 5 with fail
  clear hbn hU
  generalize w4.alloc (.cells #[.int .i64 r.kind, .slice P r.path.length pc, .slice U r.used.length uc] 31) = w5 at *
  generalize w4.heap.size = g at *
  have b0 := B.cell 0 rfl
  have b1 := B.cell 1 rfl
  have b2 := B.cell 2 rfl
  have hPy := payers_any (toQ r) _ w5 hQ4 (by show r.path.length ≤ _; have := hlenr.out; omega)
  go_wp2_with fail
  refine hPy.mono ?_
  rintro _ w6 ⟨A6, c6, rfl, hb1, hA6, h6c, h6m⟩
  replace hb := bCall hb hb1
  replace B := B.call hb1
  replace hP := hP.callx hb1
  clear hPy hQ4 b0 b1 b2 hb1
  have hP0 : Calls Tryz.prog 25 #[.agg #[.int .i64 0, .slice none 0 0, .slice none 0 0]] w6 fun e w' => ∃ A c, e = .returned (.slice A 0 c) ∧ Below w6.heap.size w6 w' := (payers_any ⟨0, [], []⟩ (.agg #[.int .i64 0, .slice none 0 0, .slice none 0 0]) w6 ⟨none, 0, none, 0, rfl, At.nil, At.nil, Nat.zero_le _, Nat.zero_le _, Nat.zero_le _, Nat.zero_le _⟩ (Nat.zero_le _)).mono fun e w' ⟨A8, c8, h1, h2, _⟩ => ⟨A8, c8, h1, h2⟩
  have b1 := B.cell 1 rfl
  obtain ⟨kind, path, used⟩ := r
  dsimp only [toQ] at hA6 h6c hlenr hP hPc B b1 hu5 ⊢
  cases path with
  | nil => exact absurd hlenr.out (by simp)
  | cons a p =>
    obtain ⟨bp, op, rfl, hbp⟩ := hP.some1 (by simp)
    have hpl : (payL (a :: p)).length = p.length + 1 := payL_len _
    obtain ⟨b6, o6, rfl, hb6⟩ := hA6.some1 (by omega)
    obtain ⟨b6', o6', e6, -, hc6⟩ := hA6.run (Nat.le_refl _) (i := 0) (by omega)
    cases e6
    have x0 := hc6 _ (Below.refl _ _) 0 _ rfl
    simp only [Nat.zero_mul, Nat.add_zero] at x0
    have x0' : w6.cell? ⟨b6, o6, none⟩ = some (.int .i64 (-1)) := x0
    have hA7 : At 1 inC w6 w6.heap.size (some ⟨b6, o6 + 1, none⟩) ((a :: p).take p.length) := At.drop1 (x := -1) hA6
    have hP7 := hP.take p.length
    have hlt : ((a :: p).take p.length).length = p.length := by simp
    have hlt2 := hlenr.out
    rw [hpl] at h6c ⊢
    rw [List.length_cons] at hPc B b1 hlt2 ⊢
    clear hA6 hP hpl x0 hc6
    generalize hpp : (a :: p).take p.length = pp at *
    generalize p.length = m at *
    have hm5 : m ≤ 5 := by omega
    clear hpp hlenr hlt2 hu5
    have tm0 : ((m : Int) + 1 == 0) = false := beq_eq_false_iff_ne.2 (by omega)
    go_wp2_with fail
    refine hP0.mono ?_
    rintro _ w7 ⟨A8, c8, rfl, hb1⟩
    replace hb := bCall hb hb1
    replace B := B.call hb1
    replace hA7 := hA7.callx hb1
    replace hP7 := hP7.callx hb1
    clear hP0 b1 x0' hb1
    have b1 := fun d os => (B.again d os).cell 1 rfl
    have hlm : pp.length ≤ 9223372036854775807 := by omega
    replace hA7 : At 1 inC w7 w7.heap.size (if c6 = 1 then some ⟨b6, o6, none⟩ else some ⟨b6, o6 + 1, none⟩) pp := by
      split
      · intro h0; omega
      · exact hA7
    have hI := fun d os => ints_any pp pp (if c6 = 1 then some ⟨b6, o6, none⟩ else some ⟨b6, o6 + 1, none⟩) (some ⟨bp, op, none⟩) (c6 - 1) pc (Sort.grow (redrawn w7 d) os) (hA7.callx (below_regrown w7 d os)) (by omega) hlm (hP7.callx (below_regrown w7 d os)) (by omega) hlm
    simp only [decide_true, hlt] at hI
    go_wp2_with fail
    refine wp_region_quiet_below (by kernel_rfl) (by kernel_rfl) ?_
    repeat (go_big_quiet_step (first | (go_at_call 20; exact Calls.regrown_of (hI _ _))))
    refine wpQuiet_nil ?_
    rintro _ ⟨q9, rfl⟩
    replace hb := bAgain hb q9.d q9.os
    go_wp2
    all_goals
      go_ret
      exact ⟨rfl, hb⟩
end Go.Proofs.YtlmnmeppgigjnaaGreatDoor
