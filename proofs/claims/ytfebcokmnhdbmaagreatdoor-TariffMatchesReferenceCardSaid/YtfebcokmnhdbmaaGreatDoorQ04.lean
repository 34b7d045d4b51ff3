/- Sum, Amount and Midnights of package tariff. pick, Zoned, During of packages dialtonelaw37 and dialtoneref37. During of package dialtoneref37. Plain mathematics of tariffs: the chapter's examples. Plain mathematics of tariffs: what the chapter's laws ask of sums, amounts, midnights and the cheapest spell. What the laws of dialtonelaw37 share: what integers determine, and calls at good inputs. Same of package dialtoneref37 at equal lists; example of package dialtonelaw37. Slices of the call's own that begin as nil. Appending to a slice of one's own that begins as nil: what else is kept. A region of a round that draws its order and only reads. -/
import Derived.Test.YtfebcokmnhdbmaaGreatDoorQ03
import Derived.Test.YtfebcokmnhdbmaaGreatDoorQ02
import Derived.Test.YtfebcokmnhdbmaaGreatDoorQ01
import Derived.Lib.QuietBelow
import Derived.BigQuiet
namespace Go.Proofs.YtfebcokmnhdbmaaGreatDoor
set_option linter.unusedVariables false
set_option linter.unusedSimpArgs false
open Go.RowKit Go.Shelf
theorem index0 (a b : Int) (w : World) : (Instr.index 86 (.agg #[.int .i64 a, .int .i64 b]) (.int .i64 0)).run Tryz.prog w = .ok (.int .i64 a) w := by kernel_rfl
theorem index1 (a b : Int) (w : World) : (Instr.index 86 (.agg #[.int .i64 a, .int .i64 b]) (.int .i64 1)).run Tryz.prog w = .ok (.int .i64 b) w := by kernel_rfl
theorem good_iff {base : Int} {l : List Tp.Rate} {off a b : Int} : good base l off a b = true ↔ Tp.valid base l = true ∧ (-50400 ≤ off ∧ off ≤ 50400) ∧ 0 ≤ a ∧ a ≤ b ∧ b ≤ 10000000 := by
  unfold good isZone isSpell
  simp only [Bool.and_eq_true, Tp.within_iff, decide_eq_true_eq, and_assoc]
def sumR (base : Int) (l : List Tp.Rate) (off a b : Int) : Int × Int := if good base l off a b then (Tp.sumF (Tp.price base l off) a b, 0) else (0, 370)
def amtR (base : Int) (l : List Tp.Rate) (off a b : Int) : Int × Int := if good base l off a b then (Tp.sumF (Tp.price base l off) 0 b / 60 - Tp.sumF (Tp.price base l off) 0 a / 60, 0) else (0, 370)
section
variable (base : Int) (L : List Tp.Rate) (A : Option Addr) (cap : Nat) (off a b : Int) (w : World) (hT : Tar w base L A cap)
include hT
set_option maxRecDepth 100000 in
set_option maxHeartbeats 4000000 in
theorem Sum_any :
    Calls Tryz.prog 24 #[.agg #[.slice A L.length cap, .int .i64 base], .int .i64 off, .agg #[.int .i64 a, .int .i64 b]] w fun e w' => e = .returned (.tuple #[.int .i64 (sumR base L off a b).1, .int .i64 (sumR base L off a b).2]) ∧ Below w.heap.size w w' := by
  have hd : Kp (sumR base L off a b = if good base L off a b then (Tp.sumF (Tp.price base L off) a b, 0) else (0, 370)) := ⟨rfl⟩
  have b1 := bNewW w (.cells #[.slice A L.length cap, .int .i64 base] 26)
  have hb := bNew b1 (.cells #[.int .i64 a, .int .i64 b] 28)
  have B := (Bx.mk w 26 #[.slice A L.length cap, .int .i64 base]).new (.cells #[.int .i64 a, .int .i64 b] 28)
  have B2 := Bx.mk (w.alloc (.cells #[.slice A L.length cap, .int .i64 base] 26)) 28 #[.int .i64 a, .int .i64 b]
  rw [alloc_size] at B2
  have hT1 := hT.call hb
  have hG := good_any base L A cap off a b _ hT1
  have hg : Kp (good base L off a b = true → _) := ⟨fun h => good_iff.1 h⟩
  have hS := fun w1 (h1 : Tar w1 base L A cap) hv ho ha hab hb => sum_any base L A cap off a b w1 h1 hv ho ha hab hb
  have c0 := B.cell 0 rfl
  have c1 := B.cell 1 rfl
  have c2 := B2.cell 0 rfl
  have c3 := B2.cell 1 rfl
  generalize sumR base L off a b = r at *
  generalize Tp.sumF (Tp.price base L off) a b = y at *
  generalize good base L off a b = g at *
  clear hT b1
  cases g
  · clear hg hS hT1
    go_enter Tryz.func24, Tryz.ntmps24
    go_wp2_with (refine hG.mono ?_; rintro e w1 ⟨rfl, hb1⟩; clear hG)
    go_ret2
    exact ⟨by rw [hd.out]; rfl, bCall hb hb1⟩
  · obtain ⟨g1, g2, g3, g4, g5⟩ := hg.out rfl
    have hr : Kp (r = (y, 0)) := ⟨by rw [hd.out]; rfl⟩
    clear hd hg
    go_enter Tryz.func24, Tryz.ntmps24
    go_wp2_with (first | (refine hG.mono ?_; rintro e w1 ⟨rfl, hb1⟩; clear hG; have k0 := (B.call hb1).cell 0 rfl; have k1 := (B.call hb1).cell 1 rfl; have k2 := (B2.call hb1).cell 0 rfl; have k3 := (B2.call hb1).cell 1 rfl) | (go_at_call 57; refine (hS _ (hT1.call hb1) g1 g2 g3 g4 (by omega)).mono ?_; rintro e w2 ⟨rfl, hb2⟩; clear hS))
    go_ret2
    exact ⟨by rw [hr.out]; rfl, bCall (bCall hb hb1) hb2⟩
set_option maxRecDepth 100000 in
set_option maxHeartbeats 4000000 in
theorem Amount_any :
    Calls Tryz.prog 26 #[.agg #[.slice A L.length cap, .int .i64 base], .int .i64 off, .agg #[.int .i64 a, .int .i64 b]] w fun e w' => e = .returned (.tuple #[.int .i64 (amtR base L off a b).1, .int .i64 (amtR base L off a b).2]) ∧ Below w.heap.size w w' := by
  have hd : Kp (amtR base L off a b = if good base L off a b then (Tp.sumF (Tp.price base L off) 0 b / 60 - Tp.sumF (Tp.price base L off) 0 a / 60, 0) else (0, 370)) := ⟨rfl⟩
  have b1 := bNewW w (.cells #[.slice A L.length cap, .int .i64 base] 26)
  have hb := bNew b1 (.cells #[.int .i64 a, .int .i64 b] 28)
  have B := (Bx.mk w 26 #[.slice A L.length cap, .int .i64 base]).new (.cells #[.int .i64 a, .int .i64 b] 28)
  have B2 := Bx.mk (w.alloc (.cells #[.slice A L.length cap, .int .i64 base] 26)) 28 #[.int .i64 a, .int .i64 b]
  rw [alloc_size] at B2
  have hT1 := hT.call hb
  have hG := good_any base L A cap off a b _ hT1
  have hg : Kp (good base L off a b = true → _) := ⟨fun h => good_iff.1 h⟩
  have hSa := fun w1 (h1 : Tar w1 base L A cap) hv ho hab hb => sum_any base L A cap off 0 a w1 h1 hv ho (Int.le_refl 0) hab hb
  have hSb := fun w1 (h1 : Tar w1 base L A cap) hv ho hab hb => sum_any base L A cap off 0 b w1 h1 hv ho (Int.le_refl 0) hab hb
  have hbd : Kp (good base L off a b = true → (0 ≤ Tp.sumF (Tp.price base L off) 0 a ∧ Tp.sumF (Tp.price base L off) 0 a ≤ 10000000000000) ∧ (0 ≤ Tp.sumF (Tp.price base L off) 0 b ∧ Tp.sumF (Tp.price base L off) 0 b ≤ 10000000000000)) := ⟨fun h => by
    obtain ⟨g1, g2, g3, g4, g5⟩ := good_iff.1 h
    have h1 := sumF_bound g1 off 0 a g3
    have h2 := sumF_bound g1 off 0 b (by omega)
    omega⟩
  have c0 := B.cell 0 rfl
  have c1 := B.cell 1 rfl
  have c2 := B2.cell 0 rfl
  have c3 := B2.cell 1 rfl
  generalize amtR base L off a b = r at *
  generalize Tp.sumF (Tp.price base L off) 0 a = ya at *
  generalize Tp.sumF (Tp.price base L off) 0 b = yb at *
  generalize good base L off a b = g at *
  clear b1
  cases g
  · clear hg hSa hSb hT1 hbd
    go_enter Tryz.func26, Tryz.ntmps26
    go_wp2_with (refine hG.mono ?_; rintro e w1 ⟨rfl, hb1⟩; clear hG)
    go_ret2
    exact ⟨by rw [hd.out]; rfl, bCall hb hb1⟩
  · obtain ⟨g1, g2, g3, g4, g5⟩ := hg.out rfl
    obtain ⟨⟨e1, e2⟩, e3, e4⟩ := hbd.out rfl
    have hr : Kp (r = (yb / 60 - ya / 60, 0)) := ⟨by rw [hd.out]; rfl⟩
    clear hd hg hbd
    go_enter Tryz.func26, Tryz.ntmps26
    go_wp2_with (refine hG.mono ?_; rintro e w1 ⟨rfl, hb1⟩; clear hG; have k0 := (B.call hb1).cell 0 rfl; have k1 := (B.call hb1).cell 1 rfl; have k2 := (B2.call hb1).cell 0 rfl; have k3 := (B2.call hb1).cell 1 rfl)
    have B1 := (B.call hb1).new (.cells #[.int .i64 a, .int .i64 b] 86)
    have B3 := Bx.mk w1 86 #[.int .i64 a, .int .i64 b]
    have hb3 := bNew (bCall hb hb1) (.cells #[.int .i64 a, .int .i64 b] 86)
    have hge : w.heap.size + 1 + 1 ≤ w1.heap.size := by have := hb1.size; rw [alloc_size, alloc_size] at this; exact this
    clear c0 c1 c2 c3 k0 k1 k2 k3 hb hb1 hT1 B B2
    generalize w1.heap.size = ge at *
    have hi0 := index0 a b
    have hi1 := index1 a b
    go_loopw [22] (fun s22 wr => ((s22 = .int .i64 0 ∧ Bx wr ge 86 #[.int .i64 a, .int .i64 b]) ∨ (s22 = .int .i64 1 ∧ Bx wr ge 86 #[.int .i64 (ya / 60), .int .i64 b]) ∨ (s22 = .int .i64 2 ∧ Bx wr ge 86 #[.int .i64 (ya / 60), .int .i64 (yb / 60)])) ∧ Bx wr w.heap.size 26 #[.slice A L.length cap, .int .i64 base] ∧ Below w.heap.size w wr) (fun s22 wr => 2 - (intOf s22).toNat)
    case atStart => exact ⟨.inl ⟨rfl, B3⟩, B1, hb3⟩
    case round =>
      clear B1 B3 hb3
      obtain ⟨⟨rfl, B3⟩ | ⟨rfl, B3⟩ | ⟨rfl, B3⟩, B1, hb3⟩ := hrel
      all_goals have hT3 := hT.call hb3
      · have c0 := B1.cell 0 rfl
        have c1 := B1.cell 1 rfl
        have hC := hSa _ hT3 g1 g2 g3 (by omega)
        clear hSa hSb
        go_wp2_with (go_at_call 57; refine hC.mono ?_; rintro e w2 ⟨rfl, hb2⟩; clear hC; have f0 := (B3.call hb2).cell 0 rfl; have f1 := (B3.call hb2).frozen 0; have B3' := (B3.call hb2).set 0 (.int .i64 (ya / 60)); have B1' := (B1.call hb2).far (p := ⟨ge, 0, none⟩) (by show w.heap.size ≠ ge; omega) (.int .i64 (ya / 60)))
        exact ⟨⟨.inr (.inl ⟨rfl, B3'⟩), B1', bSet (bCall hb3 hb2) (by show w.heap.size ≤ ge; omega) _⟩, by simp [intOf]⟩
      · have c0 := B1.cell 0 rfl
        have c1 := B1.cell 1 rfl
        have hC := hSb _ hT3 g1 g2 (by omega) (by omega)
        clear hSa hSb
        go_wp2_with (go_at_call 57; refine hC.mono ?_; rintro e w2 ⟨rfl, hb2⟩; clear hC; have f0 := (B3.call hb2).cell 1 rfl; have f1 := (B3.call hb2).frozen 1; have B3' := (B3.call hb2).set 1 (.int .i64 (yb / 60)); have B1' := (B1.call hb2).far (p := ⟨ge, 1, none⟩) (by show w.heap.size ≠ ge; omega) (.int .i64 (yb / 60)))
        exact ⟨⟨.inr (.inr ⟨rfl, B3'⟩), B1', bSet (bCall hb3 hb2) (by show w.heap.size ≤ ge; omega) _⟩, by simp [intOf]⟩
      · have c0 := B3.cell 0 rfl
        have c1 := B3.cell 1 rfl
        go_wp2
        go_ret2
        exact ⟨by rw [hr.out]; rfl, hb3⟩
end
end Go.Proofs.YtfebcokmnhdbmaaGreatDoor
namespace Go.Proofs.YtfebcokmnhdbmaaGreatDoor
set_option linter.unusedVariables false
set_option linter.unusedSimpArgs false
open Go.RowKit
theorem tpick_pos {c n : Int} (hc : 0 ≤ c) : Tp.pick c n = c % n := by unfold Tp.pick; rw [if_neg (by omega)]
theorem tpick_neg {c n : Int} (hc : c < 0) : Tp.pick c n = (-(c + 1)) % n := by unfold Tp.pick; rw [if_pos hc]
theorem tpick_any (c n : Int) (h0 : 0 < n) (h : I64 c) (w : World) :
    Calls Tryz.prog 36 #[.int .i64 c, .int .i64 n] w fun e w' => e = .returned (.int .i64 (Tp.pick c n)) ∧ w = w' := by
  obtain ⟨h1, h2⟩ := h
  by_cases hc : c < 0
  · have hm : 0 ≤ -(c+1) := by omega
    go_enter Tryz.func36, Tryz.ntmps36
    go_wp2
    go_ret
    refine ⟨ret_int ?_, rfl⟩
    rw [tpick_neg hc, ← Int.neg_tmod]
    exact Int.tmod_eq_emod_of_nonneg hm
  · have hm : 0 ≤ c := by omega
    go_enter Tryz.func36, Tryz.ntmps36
    go_wp2
    go_ret
    exact ⟨ret_int (tpick_pos hm).symm, rfl⟩
theorem trpick_any (c n : Int) (h0 : 0 < n) (h : I64 c) (w : World) :
    Calls Tryz.prog 46 #[.int .i64 c, .int .i64 n] w fun e w' => e = .returned (.int .i64 (Tp.pick c n)) ∧ w = w' := by
  obtain ⟨h1, h2⟩ := h
  by_cases hc : c < 0
  · have hm : 0 ≤ -(c+1) := by omega
    go_enter Tryz.func46, Tryz.ntmps46
    go_wp2
    go_ret
    refine ⟨ret_int ?_, rfl⟩
    rw [tpick_neg hc, ← Int.neg_tmod]
    exact Int.tmod_eq_emod_of_nonneg hm
  · have hm : 0 ≤ c := by omega
    go_enter Tryz.func46, Tryz.ntmps46
    go_wp2
    go_ret
    exact ⟨ret_int (tpick_pos hm).symm, rfl⟩
theorem tdiv_i64 {x : Int} (k : Int) (hk : 0 < k) (h : I64 x) : I64 (x.tdiv k) := by
  obtain ⟨h1, h2⟩ := h
  rcases Int.le_total 0 x with hx | hx
  · have a := Int.tdiv_nonneg hx (Int.le_of_lt hk)
    have b := Int.tdiv_le_self k hx
    exact ⟨by omega, by omega⟩
  · have a := Int.tdiv_nonneg (a := -x) (b := k) (by omega) (Int.le_of_lt hk)
    have b := Int.tdiv_le_self k (show 0 ≤ -x by omega)
    rw [Int.neg_tdiv] at a b
    exact ⟨by omega, by omega⟩
theorem zoned_any (x : Int) (w : World) (h : I64 x) :
    Calls Tryz.prog 20 #[.int .i64 x] w fun e w' => e = .returned (.int .i64 (Tp.zoned x)) ∧ w = w' := by
  have h8 := tdiv_i64 8 (by decide) h
  have b1 := Tp.pick_lt (x.tdiv 8) (show (0 : Int) < 100801 by decide)
  have b2 := Tp.pick_lt x (show (0 : Int) < 57 by decide)
  have p1 := fun w0 => trpick_any x 8 (by decide) h w0
  have p2 := fun w0 => trpick_any (x.tdiv 8) 100801 (by decide) h8 w0
  have p3 := fun w0 => trpick_any x 57 (by decide) h w0
  have hd : Kp (Tp.zoned x = if Tp.pick x 8 = 7 then Tp.pick (x.tdiv 8) 100801 - 50400 else 1800 * (Tp.pick x 57 - 28)) := ⟨rfl⟩
  generalize Tp.pick x 8 = q8 at *
  generalize Tp.pick (x.tdiv 8) 100801 = qa at *
  generalize Tp.pick x 57 = qb at *
  obtain ⟨g1, g2⟩ := h
  by_cases hq : q8 = 7
  · rw [if_pos hq] at hd
    subst hq
    go_enter Tryz.func20, Tryz.ntmps20
    go_wp2_with (go_at_call 46; first | (refine (p1 _).mono ?_; rintro e w1 ⟨rfl, rfl⟩; clear p1) | (refine (p2 _).mono ?_; rintro e w1 ⟨rfl, rfl⟩; clear p2))
    go_ret
    exact ⟨ret_int hd.out.symm, rfl⟩
  · rw [if_neg hq] at hd
    have t : (q8 == 7) = false := by simp [hq]
    go_enter Tryz.func20, Tryz.ntmps20
    go_wp2_with (go_at_call 46; first | (refine (p1 _).mono ?_; rintro e w1 ⟨rfl, rfl⟩; clear p1) | (refine (p3 _).mono ?_; rintro e w1 ⟨rfl, rfl⟩; clear p3))
    go_ret
    exact ⟨ret_int hd.out.symm, rfl⟩
end Go.Proofs.YtfebcokmnhdbmaaGreatDoor
namespace Go.Proofs.YtfebcokmnhdbmaaGreatDoor
set_option linter.unusedVariables false
set_option linter.unusedSimpArgs false
open Go.RowKit
theorem results_S1 {fn : Func} {t : Tmp} {g : Nat} {a b : Int} (h : fn.results = #[.cell t 28]) (tmps : Array Value) (w : World) (ht : tmps.getD t undef = .pointer (some ⟨g, 0, none⟩)) (hB : Bx w g 28 #[.int .i64 a, .int .i64 b]) :
    (results fn tmps).run Tryz.prog w = .ok (.agg #[.int .i64 a, .int .i64 b]) w := by
  have h0 := hB.cell 0 rfl
  have h1 := hB.cell 1 rfl
  have ht' : tmps[t]?.getD undef = .pointer (some ⟨g, 0, none⟩) := by simpa using ht
  simp only [results, h]
  simp [go_sem, ht', h0, h1, loadVar]
set_option maxRecDepth 100000 in
set_option maxHeartbeats 4000000 in
theorem during_any (x y : Int) (w : World) (hx : I64 x) (hy : I64 y) :
    Calls Tryz.prog 23 #[.int .i64 x, .int .i64 y] w fun e w' => e = .returned (.agg #[.int .i64 (Tp.durLo x), .int .i64 (Tp.durHi x y)]) ∧ Below w.heap.size w w' := by
  have h1 := Tp.pick_lt x (show (0 : Int) < 1000 by decide)
  have h2 := Tp.pick_lt (x.tdiv 1000) (show (0 : Int) < 3 by decide)
  have h3 := Tp.pick_lt (y.tdiv 4) (show (0 : Int) < 345600 by decide)
  have h4 := Tp.pick_lt (y.tdiv 4) (show (0 : Int) < 5000 by decide)
  have d1 := tdiv_i64 1000 (by decide) hx
  have d2 := tdiv_i64 4 (by decide) hy
  have p1 := fun w0 => trpick_any x 1000 (by decide) hx w0
  have p2 := fun w0 => trpick_any (x.tdiv 1000) 3 (by decide) d1 w0
  have p3 := fun w0 => trpick_any y 4 (by decide) hy w0
  have p4 := fun w0 => trpick_any (y.tdiv 4) 345600 (by decide) d2 w0
  have p5 := fun w0 => trpick_any (y.tdiv 4) 5000 (by decide) d2 w0
  have hlo : Kp (Tp.durLo x = max (1800 * Tp.pick x 1000 + Tp.pick (x.tdiv 1000) 3 - 1) 0) := ⟨rfl⟩
  have hhi : Kp (Tp.durHi x y = if Tp.pick y 4 = 3 then Tp.durLo x + Tp.pick (y.tdiv 4) 345600 else Tp.durLo x + Tp.pick (y.tdiv 4) 5000) := ⟨rfl⟩
  have hdr := Tp.dur_in x y
  generalize Tp.durHi x y = hi at *
  generalize Tp.durLo x = lo at *
  generalize Tp.pick x 1000 = q1 at *
  generalize Tp.pick (x.tdiv 1000) 3 = q2 at *
  generalize Tp.pick y 4 = q3 at *
  generalize Tp.pick (y.tdiv 4) 345600 = q4 at *
  generalize Tp.pick (y.tdiv 4) 5000 = q5 at *
  have hmax : max (1800 * q1 + q2 - 1) 0 = lo := hlo.out.symm
  have B0 := (Bx.mk w 28 #[.int .i64 0, .int .i64 0]).new (.cells #[.int .i64 lo, .int .i64 0] 28)
  have B1 := Bx.mk (w.alloc (.cells #[.int .i64 0, .int .i64 0] 28)) 28 #[.int .i64 lo, .int .i64 0]
  rw [alloc_size] at B1
  have hb := bNew (bNewW w (.cells #[.int .i64 0, .int .i64 0] 28)) (.cells #[.int .i64 lo, .int .i64 0] 28)
  obtain ⟨xa, xb⟩ := hx
  obtain ⟨ya, yb⟩ := hy
  obtain ⟨e1, e2, e3, e4⟩ := hdr
  have ys : Kp (I64 (y.tdiv 4)) := ⟨d2⟩
  clear hlo d1 d2
  have hleft : ∀ (Q : Exit → Act → World → Prop), True := fun _ => trivial
  by_cases hq : q3 = 3
  · subst hq
    have hhi2 : Kp (hi = lo + q4) := ⟨by rw [hhi.out, if_pos rfl]⟩
    clear hhi p5
    go_enter Tryz.func23, Tryz.ntmps23
    go_wp2_with (go_at_call 46; first | (with_reducible refine (p1 _).mono ?_; rintro e w1 ⟨rfl, rfl⟩; clear p1) | (with_reducible refine (p2 _).mono ?_; rintro e w1 ⟨rfl, rfl⟩; clear p2) | (with_reducible refine (p3 _).mono ?_; rintro e w1 ⟨rfl, rfl⟩; clear p3))
    have g0 := fun d os => (B1.again d os).cell 0 rfl
    have k4 := fun d os => calls_below (p4 (Sort.grow (redrawn ((w.alloc (.cells #[.int .i64 0, .int .i64 0] 28)).alloc (.cells #[.int .i64 lo, .int .i64 0] 28)) d) os))
    refine wp_region_below_tail 7 (by kernel_rfl) (by kernel_rfl) ?_
    simp only [List.take, List.drop]
    repeat (go_big_quiet_step (first | (go_at_call 46; with_reducible exact Calls.regrown_of (k4 _ _))))
    refine wpQuiet_nil ?_
    rintro _ ⟨z, rfl⟩
    have B0z := B0.again z.d z.os
    have B1z := B1.again z.d z.os
    have hbz := bAgain hb z.d z.os
    clear g0 k4 p4 B0 B1 hb
    generalize Sort.grow (redrawn ((w.alloc (.cells #[.int .i64 0, .int .i64 0] 28)).alloc (.cells #[.int .i64 lo, .int .i64 0] 28)) z.d) z.os = W at *
    have f0 := B1z.cell 0 rfl
    have f1 := B1z.cell 1 rfl
    have f2 := B1z.frozen 1
    have r0 := B0z.cell 0 rfl
    have r1 := B0z.cell 1 rfl
    have r2 := B0z.frozen 0
    have r3 := B0z.frozen 1
    have B1y := B1z.set 1 (.int .i64 (lo + q4))
    have B0y := B0z.far (p := ⟨w.heap.size + 1, 1, none⟩) (by simp) (.int .i64 (lo + q4))
    have hby := bSet hbz (p := ⟨w.heap.size + 1, 1, none⟩) (Nat.le_succ _) (.int .i64 (lo + q4))
    have B0x := (B0y.set 0 (.int .i64 lo)).set 1 (.int .i64 (lo + q4))
    have hbx := bSet (bSet hby (p := ⟨w.heap.size, 0, none⟩) (Nat.le_refl _) (.int .i64 lo)) (p := ⟨w.heap.size, 1, none⟩) (Nat.le_refl _) (.int .i64 (lo + q4))
    go_wp2
    exact bodyPost_ret (results_S1 rfl _ _ rfl B0x) rfl ⟨by rw [hhi2.out], hbx⟩
  · have hq' : (q3 == 3) = false := by simp [hq]
    have hhi2 : Kp (hi = lo + q5) := ⟨by rw [hhi.out, if_neg hq]⟩
    clear hhi p4
    go_enter Tryz.func23, Tryz.ntmps23
    go_wp2_with (go_at_call 46; first | (with_reducible refine (p1 _).mono ?_; rintro e w1 ⟨rfl, rfl⟩; clear p1) | (with_reducible refine (p2 _).mono ?_; rintro e w1 ⟨rfl, rfl⟩; clear p2) | (with_reducible refine (p3 _).mono ?_; rintro e w1 ⟨rfl, rfl⟩; clear p3))
    have g0 := fun d os => (B1.again d os).cell 0 rfl
    have k4 := fun d os => calls_below (p5 (Sort.grow (redrawn ((w.alloc (.cells #[.int .i64 0, .int .i64 0] 28)).alloc (.cells #[.int .i64 lo, .int .i64 0] 28)) d) os))
    refine wp_region_below_tail 7 (by kernel_rfl) (by kernel_rfl) ?_
    simp only [List.take, List.drop]
    repeat (go_big_quiet_step (first | (go_at_call 46; with_reducible exact Calls.regrown_of (k4 _ _))))
    refine wpQuiet_nil ?_
    rintro _ ⟨z, rfl⟩
    have B0z := B0.again z.d z.os
    have B1z := B1.again z.d z.os
    have hbz := bAgain hb z.d z.os
    clear g0 k4 p5 B0 B1 hb
    generalize Sort.grow (redrawn ((w.alloc (.cells #[.int .i64 0, .int .i64 0] 28)).alloc (.cells #[.int .i64 lo, .int .i64 0] 28)) z.d) z.os = W at *
    have f0 := B1z.cell 0 rfl
    have f1 := B1z.cell 1 rfl
    have f2 := B1z.frozen 1
    have r0 := B0z.cell 0 rfl
    have r1 := B0z.cell 1 rfl
    have r2 := B0z.frozen 0
    have r3 := B0z.frozen 1
    have B1y := B1z.set 1 (.int .i64 (lo + q5))
    have B0y := B0z.far (p := ⟨w.heap.size + 1, 1, none⟩) (by simp) (.int .i64 (lo + q5))
    have hby := bSet hbz (p := ⟨w.heap.size + 1, 1, none⟩) (Nat.le_succ _) (.int .i64 (lo + q5))
    have B0x := (B0y.set 0 (.int .i64 lo)).set 1 (.int .i64 (lo + q5))
    have hbx := bSet (bSet hby (p := ⟨w.heap.size, 0, none⟩) (Nat.le_refl _) (.int .i64 lo)) (p := ⟨w.heap.size, 1, none⟩) (Nat.le_refl _) (.int .i64 (lo + q5))
    go_wp2
    exact bodyPost_ret (results_S1 rfl _ _ rfl B0x) rfl ⟨by rw [hhi2.out], hbx⟩
end Go.Proofs.YtfebcokmnhdbmaaGreatDoor
namespace Tp
set_option linter.unusedVariables false
def ex : List Rate := [⟨96, 0, 86400, 60⟩, ⟨127, 0, 28800, 120⟩]
theorem ex_ok : ∀ r ∈ ex, Ok r := by
  intro r hr
  simp only [ex, List.mem_cons, List.not_mem_nil, or_false] at hr
  rcases hr with rfl | rfl <;> exact ⟨by decide, by decide, by decide, by decide, by decide, by decide, by decide⟩
theorem ex_valid : valid 600 ex = true := by decide +kernel
theorem ex_cuts : Cuts ex [0, 28800] := by
  refine ⟨fun r hr => ?_, fun r hr => ?_, by decide, by decide⟩ <;>
    (simp only [ex, List.mem_cons, List.not_mem_nil, or_false] at hr; rcases hr with rfl | rfl <;> decide)
theorem ex_sum (a b : Int) (h : a ≤ b) : sumF (price 600 ex 3600) a b = worth (pieces 600 ex [0, 28800] 3600 (b - a).toNat a b) :=
  (pieces_worth ex_cuts ex_ok _ a b h (by omega)).symm
theorem ex1 : sumF (price 600 ex 3600) 25190 25210 = 7200 := by rw [ex_sum _ _ (by decide)]; decide +kernel
theorem ex2 : sumF (price 600 ex 3600) 0 25190 = 3022800 := by rw [ex_sum _ _ (by decide)]; decide +kernel
theorem ex3 : sumF (price 600 ex 3600) 0 25195 = 3023400 := by rw [ex_sum _ _ (by decide)]; decide +kernel
theorem ex4 : sumF (price 600 ex 3600) 0 25210 = 3030000 := by rw [ex_sum _ _ (by decide)]; decide +kernel
theorem ex5 : sumF (price 600 ex 3600) 0 5 = 600 := by rw [ex_sum _ _ (by decide)]; decide +kernel
theorem ex_prices : price 600 ex 3600 0 = 120 ∧ price 600 ex 3600 25199 = 120 ∧ price 600 ex 3600 25200 = 600 ∧ price 600 ex 3600 428399 = 600 ∧ price 600 ex 3600 428400 = 60 := by decide +kernel
/-- a pair that no beginning betters is the one that is found -/
theorem cheap_unique {W : Int → Int} {A B x y : Int} (hx : A ≤ x ∧ x ≤ B ∧ ∀ t, A ≤ t → t ≤ B → W x < W t ∨ (W x = W t ∧ x ≤ t)) (hy : A ≤ y ∧ y ≤ B ∧ ∀ t, A ≤ t → t ≤ B → W y < W t ∨ (W y = W t ∧ y ≤ t)) : x = y := by
  have h1 := hx.2.2 y hy.1 hy.2.1
  have h2 := hy.2.2 x hx.1 hx.2.1
  omega
theorem ex_cheap : cheapest 600 ex [0, 28800] 3600 20000 30000 60 = (20000, 7200) := by
  have hw : ∀ t : Int, win (price 600 ex 3600) 60 t = worth (pieces 600 ex [0, 28800] 3600 60 t (t + 60)) := fun t => by
    unfold win
    rw [ex_sum _ _ (by omega), show (t + 60 - t).toNat = 60 by omega]
  have hf : win (price 600 ex 3600) 60 = fun t => worth (pieces 600 ex [0, 28800] 3600 60 t (t + 60)) := funext hw
  unfold cheapest
  rw [hf]
  decide +kernel
theorem ex_split : splits (pieces 600 ex [0, 28800] 3600 20 25190 25210) = [⟨25190, 25200, 120⟩, ⟨25200, 25210, 600⟩] := by rfl
theorem ex_mids : mids 3 (first 3600 0) 200000 = [82800, 169200] := by decide +kernel
end Tp
namespace Tp
set_option linter.unusedVariables false
theorem sumN_nonneg {f : Int → Int} (h : ∀ t, 0 ≤ f t) (a : Int) : ∀ n, 0 ≤ sumN f a n
  | 0 => Int.le_refl _
  | n + 1 => by have := sumN_nonneg h a n; have := h (a + n); rw [sumN]; omega
theorem sumF_nonneg {f : Int → Int} (h : ∀ t, 0 ≤ f t) (a b : Int) : 0 ≤ sumF f a b := sumN_nonneg h a _
def amt (f : Int → Int) (a b : Int) : Int := sumF f 0 b / 60 - sumF f 0 a / 60
theorem amt_add (f : Int → Int) (a b c : Int) : amt f a c = amt f a b + amt f b c := by unfold amt; omega
theorem amt_self (f : Int → Int) (a : Int) : amt f a a = 0 := by unfold amt; omega
theorem rounds {f : Int → Int} (h : ∀ t, 0 ≤ f t) {a b : Int} (h0 : 0 ≤ a) (hab : a ≤ b) : 0 ≤ sumF f a b ∧ 0 ≤ amt f a b ∧ 60 * amt f a b - sumF f a b < 60 ∧ sumF f a b - 60 * amt f a b < 60 := by
  have h1 := sumF_add f h0 hab
  have h2 := sumF_nonneg h 0 a
  have h3 := sumF_nonneg h a b
  unfold amt
  omega
theorem zone_sum (base : Int) (l : List Rate) (off d a b : Int) : sumF (price base l (off - d)) (a + d) (b + d) = sumF (price base l off) a b := by
  unfold sumF
  rw [show b + d - (a + d) = b - a by omega]
  exact sumN_congr fun i _ => by rw [show a + d + (i : Int) = a + i + d by omega, price_shift]
theorem week_sum (base : Int) (l : List Rate) (off a b k : Int) : sumF (price base l off) (a + 604800 * k) (b + 604800 * k) = sumF (price base l off) a b := by
  unfold sumF
  rw [show b + 604800 * k - (a + 604800 * k) = b - a by omega]
  exact sumN_congr fun i _ => by rw [show a + 604800 * k + (i : Int) = a + i + 604800 * k by omega, price_week]
theorem week_any (base : Int) (l : List Rate) (off a b : Int) : sumF (price base l off) a (a + 604800) = sumF (price base l off) b (b + 604800) := by
  unfold sumF
  rw [show a + 604800 - a = ((604800 : Nat) : Int) by omega, show b + 604800 - b = ((604800 : Nat) : Int) by omega]
  exact sumF_window (d := 604800) (fun t => by have := price_week base l off t 1; rw [Int.mul_one] at this; exact this) a b
/-- one place at which a spell is divided -/
theorem adds_step (f : Int → Int) {a u v : Int} (h1 : a ≤ u) (h2 : u ≤ v) : sumF f a v = sumF f a u + sumF f u v ∧ amt f a v = amt f a u + amt f u v := ⟨sumF_add f h1 h2, amt_add f a u v⟩
/-- what the law of the cheapest spell asks -/
theorem cheapest_law {l : List Rate} {C : List Int} (hC : Cuts l C) {base : Int} (hl : ∀ r ∈ l, Ok r) {off a b n : Int} (hn : 1 ≤ n) (hb : n ≤ b - a) {t m : Int} (ht : a ≤ t) (ht2 : t ≤ b - n) (hm : 0 ≤ m) :
    a ≤ (cheapest base l C off a b n).1 ∧ (cheapest base l C off a b n).1 + n ≤ b ∧ sumF (price base l off) (cheapest base l C off a b n).1 ((cheapest base l C off a b n).1 + n) = (cheapest base l C off a b n).2 ∧
      (cheapest base l C off a b n).2 ≤ sumF (price base l off) t (t + n) ∧ ((cheapest base l C off a b n).1 ≤ t ∨ (cheapest base l C off a b n).2 < sumF (price base l off) t (t + n)) ∧
      (cheapest base l C off a (b + m) n).2 ≤ (cheapest base l C off a b n).2 := by
  obtain ⟨h1, h2, h3, h4⟩ := cheapest_least hC (base := base) hl (off := off) hn hb
  obtain ⟨k1, k2, k3, k4⟩ := cheapest_least hC (base := base) hl (off := off) (a := a) (b := b + m) hn (by omega)
  have h5 := h4 t ht ht2
  have k5 := k4 _ h2 (by omega)
  rw [h1, k1]
  unfold win at *
  refine ⟨h2, by omega, rfl, by omega, by omega, by omega⟩
/-! ### midnights -/
theorem mids_day (off a : Int) : (mids 200 (first off a) (a + 86400)).length = 1 := by
  have h := first_is off a
  have := mids_len 200 (first off a) (a + 86400) (by omega)
  split at this <;> omega
theorem mids_at {off a b : Int} {i : Nat} {x : Int} (h : (mids 200 (first off a) b)[i]? = some x) : a ≤ x ∧ x < b ∧ (x + off + 604800) % 86400 = 0 ∧ x = first off a + 86400 * i := by
  have h1 := first_is off a
  have h2 := mids_get 200 (first off a) b i x h
  omega
theorem mids_many {off a b : Int} (hab : a ≤ b) (hb : b - a ≤ 17000000) : ((mids 200 (first off a) b).length : Int) = (b - a) / 86400 ∨ ((mids 200 (first off a) b).length : Int) = (b - a) / 86400 + 1 := by
  have h1 := first_is off a
  have h2 := mids_len 200 (first off a) b (by omega)
  split at h2 <;> omega
end Tp
namespace Go.Proofs.YtfebcokmnhdbmaaGreatDoor
set_option linter.unusedVariables false
set_option linter.unusedSimpArgs false
open Go.RowKit Go.Shelf
def y4C (y : Tp.Y4) : List Value := [.int .i64 y.a, .int .i64 y.b, .int .i64 y.c, .int .i64 y.d]
theorem field0 (a b : Int) (w : World) : (Instr.field 28 (.agg #[.int .i64 a, .int .i64 b]) 0).run Tryz.prog w = .ok (.int .i64 a) w := by kernel_rfl
/-- between two calls of a law: a tariff, and the table of powers -/
structure TS (w0 w : World) (b : Int) (l : List Tp.Rate) (A : Option Addr) (cap : Nat) : Prop where
  bl : Below w0.heap.size w0 w
  tar : Tar w b l A cap
  env : Env w
theorem TS.call {w0 w w' : World} {b : Int} {l : List Tp.Rate} {A : Option Addr} {cap : Nat} (h : TS w0 w b l A cap) (hb : Below w.heap.size w w') : TS w0 w' b l A cap :=
  ⟨bCall h.bl hb, h.tar.call hb, h.env.below hb⟩
section
variable {base : Int} {L : List Tp.Rate} {A : Option Addr} {cap : Nat} {off a b y : Int} {w : World}
theorem good_of (hv : Tp.valid base L = true) (ho : -50400 ≤ off ∧ off ≤ 50400) (h0 : 0 ≤ a) (hab : a ≤ b) (hb : b ≤ 10000000) : good base L off a b = true := good_iff.2 ⟨hv, ho, h0, hab, hb⟩
theorem Sum_ok (hT : Tar w base L A cap) (hv : Tp.valid base L = true) (ho : -50400 ≤ off ∧ off ≤ 50400) (h0 : 0 ≤ a) (hab : a ≤ b) (hb : b ≤ 10000000) (hy : Kp (Tp.sumF (Tp.price base L off) a b = y)) :
    Calls Tryz.prog 24 #[.agg #[.slice A L.length cap, .int .i64 base], .int .i64 off, .agg #[.int .i64 a, .int .i64 b]] w fun e w' => e = .returned (.tuple #[.int .i64 y, .int .i64 0]) ∧ Below w.heap.size w w' := by
  have h := Sum_any base L A cap off a b w hT
  unfold sumR at h
  rw [if_pos (good_of hv ho h0 hab hb), hy.out] at h
  exact h
theorem Amount_ok (hT : Tar w base L A cap) (hv : Tp.valid base L = true) (ho : -50400 ≤ off ∧ off ≤ 50400) (h0 : 0 ≤ a) (hab : a ≤ b) (hb : b ≤ 10000000) (hy : Kp (Tp.amt (Tp.price base L off) a b = y)) :
    Calls Tryz.prog 26 #[.agg #[.slice A L.length cap, .int .i64 base], .int .i64 off, .agg #[.int .i64 a, .int .i64 b]] w fun e w' => e = .returned (.tuple #[.int .i64 y, .int .i64 0]) ∧ Below w.heap.size w w' := by
  have h := Amount_any base L A cap off a b w hT
  unfold amtR at h
  rw [if_pos (good_of hv ho h0 hab hb)] at h
  have e : Tp.sumF (Tp.price base L off) 0 b / 60 - Tp.sumF (Tp.price base L off) 0 a / 60 = y := hy.out
  rw [e] at h
  exact h
theorem Price_ok {t : Int} (hT : Tar w base L A cap) (hv : Tp.valid base L = true) (ho : -50400 ≤ off ∧ off ≤ 50400) (h0 : 0 ≤ t) (hb : t ≤ 10000000) (hy : Kp (Tp.price base L off t = y)) :
    Calls Tryz.prog 21 #[.agg #[.slice A L.length cap, .int .i64 base], .int .i64 off, .int .i64 t] w fun e w' => e = .returned (.tuple #[.int .i64 y, .int .i64 0]) ∧ Below w.heap.size w w' := by
  have h := price_any base L A cap off t w hT ⟨by omega, by omega⟩ ⟨by omega, by omega⟩
  unfold priceR at h
  have e1 : Tp.within t 0 10000000 = true := Tp.within_iff.2 ⟨h0, hb⟩
  have e2 : isZone off = true := Tp.within_iff.2 ho
  rw [hv, e1, e2, if_pos (by rfl), hy.out] at h
  exact h
end
/-- what a law's integers determine -/
structure LP (base : Int) (x : List Tp.Y4) (off p q : Int) (bs : Int) (L : List Tp.Rate) (z a b : Int) : Prop where
  eb : Kp (Tp.pick base 1000 = bs)
  eL : Kp (Tp.made x = L)
  ez : Kp (Tp.zoned off = z)
  ea : Kp (Tp.durLo p = a)
  eh : Kp (Tp.durHi p q = b)
  v : Tp.valid bs L = true
  zz : -50400 ≤ z ∧ z ≤ 50400
  a0 : 0 ≤ a
  a1 : a ≤ 1798201
  ab : a ≤ b
  b1 : b < a + 345600
  b0 : 0 ≤ bs ∧ bs < 1000
theorem LP.ex (base : Int) (x : List Tp.Y4) (off p q : Int) : ∃ bs L z a b, LP base x off p q bs L z a b := by
  have h := Tp.dur_in p q
  exact ⟨_, _, _, _, _, ⟨rfl⟩, ⟨rfl⟩, ⟨rfl⟩, ⟨rfl⟩, ⟨rfl⟩, Tp.made_valid base x, Tp.zoned_in off, h.1, h.2.1, h.2.2.1, h.2.2.2, Tp.pick_lt base (by decide)⟩
end Go.Proofs.YtfebcokmnhdbmaaGreatDoor
namespace Go.Proofs.YtfebcokmnhdbmaaGreatDoor
set_option linter.unusedVariables false
set_option linter.unusedSimpArgs false
open Go.RowKit
def pcC (p : Tp.Pc) : List Value := [.int .i64 p.lo, .int .i64 p.hi, .int .i64 p.price]
set_option maxRecDepth 100000 in
set_option maxHeartbeats 4000000 in
theorem Same_eq (x : List Tp.Pc) (A C : Option Addr) (ca cc : Nat) (w : World) (hA : At 3 pcC w w.heap.size A x) (hC : At 3 pcC w w.heap.size C x) (ha : x.length ≤ ca) (hc : x.length ≤ cc) (hx : x.length ≤ 9223372036854775807) :
    Calls Tryz.prog 34 #[.slice A x.length ca, .slice C x.length cc] w fun e w' => e = .returned (.bool true) ∧ Below w.heap.size w w' := by
  go_enter Tryz.func34, Tryz.ntmps34
  go_wp2_with fail
  go_loopw [5] (fun s5 wr => ∃ k : Nat, k ≤ x.length ∧ s5 = .int .i64 k ∧ Below w.heap.size w wr) (fun s5 _ => x.length - (intOf s5).toNat)
  case atStart => exact ⟨0, Nat.zero_le _, rfl, bStart _⟩
  case round =>
    obtain ⟨k, hk, rfl, hb⟩ := hrel
    by_cases hlt : k < x.length
    · obtain ⟨b, off, rfl, hbB, hcell⟩ := hA (by omega)
      obtain ⟨b2, off2, rfl, hbB2, hcell2⟩ := hC (by omega)
      have hck := List.getElem?_eq_getElem hlt
      have hw1 := Nat.lt_of_lt_of_le hbB hb.size
      have hw2 := Nat.lt_of_lt_of_le hbB2 hb.size
      have g0 := fun d os => ((below_regrown wr d os).cell (p := ⟨b, off + k * 3, none⟩) hw1).trans ((hb.cell (p := ⟨b, _, none⟩) hbB).trans (hcell k _ hck 0 _ rfl))
      have g1 := fun d os => ((below_regrown wr d os).cell (p := ⟨b, off + k * 3 + 1, none⟩) hw1).trans ((hb.cell (p := ⟨b, _, none⟩) hbB).trans (hcell k _ hck 1 _ rfl))
      have g2 := fun d os => ((below_regrown wr d os).cell (p := ⟨b, off + k * 3 + 2, none⟩) hw1).trans ((hb.cell (p := ⟨b, _, none⟩) hbB).trans (hcell k _ hck 2 _ rfl))
      have k0 := fun d os => ((below_regrown wr d os).cell (p := ⟨b2, off2 + k * 3, none⟩) hw2).trans ((hb.cell (p := ⟨b2, _, none⟩) hbB2).trans (hcell2 k _ hck 0 _ rfl))
      have k1 := fun d os => ((below_regrown wr d os).cell (p := ⟨b2, off2 + k * 3 + 1, none⟩) hw2).trans ((hb.cell (p := ⟨b2, _, none⟩) hbB2).trans (hcell2 k _ hck 1 _ rfl))
      have k2 := fun d os => ((below_regrown wr d os).cell (p := ⟨b2, off2 + k * 3 + 2, none⟩) hw2).trans ((hb.cell (p := ⟨b2, _, none⟩) hbB2).trans (hcell2 k _ hck 2 _ rfl))
      generalize x[k].lo = x0 at *
      generalize x[k].hi = x1 at *
      generalize x[k].price = x2 at *
      clear hcell hcell2 hA hC hck
      go_wp2_with fail
      refine wp_region_quiet_below (by kernel_rfl) (by kernel_rfl) ?_
      repeat (go_big_quiet_step (fail))
      refine wpQuiet_nil ?_
      rintro _ ⟨q, rfl⟩
      go_wp2
      exact ⟨⟨k + 1, by omega, by go_num, bAgain hb q.d q.os⟩, by simp [intOf]; omega⟩
    · clear hA hC
      go_wp2
      go_ret
      exact ⟨rfl, hb⟩
theorem results_T1 {fn : Func} {t : Tmp} {g n c : Nat} {A : Option Addr} {base : Int} (h : fn.results = #[.cell t 26]) (tmps : Array Value) (w : World) (ht : tmps.getD t undef = .pointer (some ⟨g, 0, none⟩)) (hB : Bx w g 26 #[.slice A n c, .int .i64 base]) :
    (results fn tmps).run Tryz.prog w = .ok (.agg #[.slice A n c, .int .i64 base]) w := by
  have h0 := hB.cell 0 rfl
  have h1 := hB.cell 1 rfl
  have ht' : tmps[t]?.getD undef = .pointer (some ⟨g, 0, none⟩) := by simpa using ht
  simp only [results, h]
  simp [go_sem, ht', h0, h1, loadVar]
set_option maxRecDepth 100000 in
set_option maxHeartbeats 4000000 in
theorem example_any (w : World) :
    Calls Tryz.prog 44 #[] w fun e w' => (∃ A, e = .returned (.agg #[.slice A Tp.ex.length 2, .int .i64 600]) ∧ At 4 rateC w' w'.heap.size A Tp.ex) ∧ Below w.heap.size w w' := by
  have B := (Bx.mk w 26 #[.slice none 0 0, .int .i64 0]).new (.cells #[.int .i64 96, .int .i64 0, .int .i64 86400, .int .i64 60, .int .i64 127, .int .i64 0, .int .i64 28800, .int .i64 120] 68)
  have hb := bNew (bNewW w (.cells #[.slice none 0 0, .int .i64 0] 26)) (.cells #[.int .i64 96, .int .i64 0, .int .i64 86400, .int .i64 60, .int .i64 127, .int .i64 0, .int .i64 28800, .int .i64 120] 68)
  have B2 := Bx.mk (w.alloc (.cells #[.slice none 0 0, .int .i64 0] 26)) 68 #[.int .i64 96, .int .i64 0, .int .i64 86400, .int .i64 60, .int .i64 127, .int .i64 0, .int .i64 28800, .int .i64 120]
  rw [alloc_size] at B2
  have r0 := B.cell 0 rfl
  have r1 := B.cell 1 rfl
  have f0 := B.frozen 0
  have f1 := B.frozen 1
  have B3 := (Bx.mk w 26 #[.slice (some ⟨w.heap.size + 1, 0, none⟩) 2 2, .int .i64 600]).new (.cells #[.int .i64 96, .int .i64 0, .int .i64 86400, .int .i64 60, .int .i64 127, .int .i64 0, .int .i64 28800, .int .i64 120] 68)
  have hb3 := bNew (bNewW w (.cells #[.slice (some ⟨w.heap.size + 1, 0, none⟩) 2 2, .int .i64 600] 26)) (.cells #[.int .i64 96, .int .i64 0, .int .i64 86400, .int .i64 60, .int .i64 127, .int .i64 0, .int .i64 28800, .int .i64 120] 68)
  have B4 := Bx.mk (w.alloc (.cells #[.slice (some ⟨w.heap.size + 1, 0, none⟩) 2 2, .int .i64 600] 26)) 68 #[.int .i64 96, .int .i64 0, .int .i64 86400, .int .i64 60, .int .i64 127, .int .i64 0, .int .i64 28800, .int .i64 120]
  rw [alloc_size] at B4
  go_enter Tryz.func44, Tryz.ntmps44
  go_wp2
  refine bodyPost_ret (results_T1 rfl _ _ rfl B3) rfl ⟨⟨_, rfl, fun _ => ⟨w.heap.size + 1, 0, rfl, B4.lt, fun i c hi j u hj => ?_⟩⟩, hb3⟩
  refine B4.cell (0 + i * 4 + j) ?_
  have hi2 : i < 2 := (List.getElem?_eq_some_iff.1 hi).1
  rcases (show i = 0 ∨ i = 1 by omega) with rfl | rfl
  · obtain rfl : (⟨96, 0, 86400, 60⟩ : Tp.Rate) = c := by simpa [Tp.ex] using hi
    have hj4 : j < 4 := (List.getElem?_eq_some_iff.1 hj).1
    rcases (show j = 0 ∨ j = 1 ∨ j = 2 ∨ j = 3 by omega) with rfl | rfl | rfl | rfl <;> exact hj
  · obtain rfl : (⟨127, 0, 28800, 120⟩ : Tp.Rate) = c := by simpa [Tp.ex] using hi
    have hj4 : j < 4 := (List.getElem?_eq_some_iff.1 hj).1
    rcases (show j = 0 ∨ j = 1 ∨ j = 2 ∨ j = 3 by omega) with rfl | rfl | rfl | rfl <;> exact hj
end Go.Proofs.YtfebcokmnhdbmaaGreatDoor
namespace Go.Proofs.YtfebcokmnhdbmaaGreatDoor
set_option linter.unusedVariables false
set_option linter.unusedSimpArgs false
open Go.RowKit
/-- nil, or a slice of one's own -/
def RowZ (e : TypeId) (size B n : Nat) (flat : List Value) : Value → World → Prop := fun v w => (v = .slice none 0 0 ∧ n = 0 ∧ flat = []) ∨ ∃ cap, RowC e size B cap n flat v w ∧ cap ≤ maxLen
theorem stab_rowZ (e : TypeId) (size B n : Nat) (flat : List Value) : Stab (RowZ e size B n flat) := fun v w w' h hb => by
  rcases h with h | ⟨cap, h, hm⟩
  · exact .inl h
  · exact .inr ⟨cap, stab_rowC e size B cap n flat v w w' h hb, hm⟩
theorem append_rowZ {P : Program} (w : World) (t ty e : TypeId) (i : TypeInfo) (z : Value) (size B n m : Nat) (flat news : List Value) (v x : Value) (ht : P.underlying t = some (.slice e)) (hi : P.info? e = some i) (hz : i.zero = some z)
    (hsize : i.size = size) (hzs : z.cells.size = size) (hv : RowZ e size B n flat v w) (hB : B ≤ w.heap.size) (hs : Src P size t x m news w) (hm : 0 < m) (h63 : n + m ≤ maxLen) (hb : (n + m) * i.bytes ≤ 140737488355328) :
    ∃ v' w', (Builtin.append_ #[t, t] ty #[v, x]).run P w = .ok v' w' ∧ Below B w w' ∧ RowZ e size B (n + m) (flat ++ news) v' w' := by
  rcases hv with ⟨rfl, rfl, rfl⟩ | ⟨cap, hv, hcm⟩
  · subst hsize
    have hnl := hs.newsLen
    have hold : (Builtin.firstCells i.size 0 (.slice none 0 0)).run P w.drew = .ok ([] : List Value).toArray w.drew := by simp [Builtin.firstCells, loadCells, loadCellsFrom]
    have hrun := run_append_grow_src (P := P) w t t ty e i z ht hi hz none 0 0 [] hold x m news hs (by omega) (by simp only [maxLen] at h63; omega) (growslice_fits (by omega) hb)
    have hge := grownCap_ge w (0 + m) 0 e
    refine ⟨_, _, hrun, ((Below.refl B w).drew).alloc hB _, .inr ⟨_, ⟨w.heap.size, _, rfl, hB, hge, Bx.mk w.drew e _, ?_, ?_⟩, grownCap_le_maxLen w (0 + m) 0 e h63⟩⟩
    · rw [Array.size_append, List.size_toArray, List.length_append, List.length_nil, hnl, size_zeroCells, hzs, Nat.zero_add, ← Nat.add_mul]
      congr 1; omega
    · rw [Array.toList_append, List.take_append_of_le_length (by simp [hnl, Nat.add_mul])]
      rw [List.take_of_length_le (by simp [hnl, Nat.add_mul])]
  · obtain ⟨v', w', cap', h1, h2, h3, h4, h5⟩ := append_row (P := P) w t ty e i z size B cap n m flat news v x ht hi hz hsize hzs hv hB hs hcm h63 hb
    exact ⟨v', w', h1, h2, .inr ⟨cap', h4, h5⟩⟩
theorem wpList_append_rowZ {P : Program} {w : World} {ops : Array Oper} {rest : List Oper} {o : Oper} {a : Act} {Q : Exit → Act → World → Prop} (hgd : o.guard = none) (s y : Operand) (t e : TypeId) (ho : o.op = .call { callee := .builtin .append, args := #[s, y], argTypes := #[t, t] })
    (i : TypeInfo) (z : Value) (size B n m : Nat) (flat news : List Value) (v x : Value) (ht : P.underlying t = some (.slice e)) (hi : P.info? e = some i) (hz : i.zero = some z)
    (hsize : i.size = size) (hzs : z.cells.size = size) (hes : a.eval s = v) (hey : a.eval y = x) (hv : RowZ e size B n flat v w) (hB : B ≤ w.heap.size) (hs : Src P size t x m news w) (hm : 0 < m) (h63 : n + m ≤ maxLen) (hb : (n + m) * i.bytes ≤ 140737488355328)
    (h : ∀ v' w', Below B w w' → RowZ e size B (n + m) (flat ++ news) v' w' → wpList P ops Q rest (a.put o.dst v') w') : wpList P ops Q (o :: rest) a w := by
  obtain ⟨v', w', hr, h1, h2⟩ := append_rowZ (P := P) w t o.type e i z size B n m flat news v x ht hi hz hsize hzs hv hB hs hm h63 hb
  refine wpList_plain hgd fun _ hK => ?_
  unfold Oper.wp execOp
  simp only [ho, resolve, invoke, builtin, Sem.run_bind, Sem.run_pure, Result.andThen_ok, List.map_toArray, List.map_cons, List.map_nil, hes, hey, hr]
  exact hK _ _ (h v' w' h1 h2)
/-- what a slice of one's own is: nil, or a block -/
theorem RowZ.at {α : Type} {size : Nat} {f : α → List Value} {w : World} {e : TypeId} {B : Nat} {p : List α} {v : Value} (hf : ∀ c, (f c).length = size) (h : RowZ e size B p.length (p.flatMap f) v w) :
    ∃ A cap, v = .slice A p.length cap ∧ At size f w w.heap.size A p ∧ p.length ≤ cap ∧ cap ≤ maxLen := by
  rcases h with ⟨rfl, h0, -⟩ | ⟨cap, h, hm⟩
  · rw [h0]
    exact ⟨none, 0, rfl, fun h => by omega, by omega, Nat.zero_le _⟩
  · obtain ⟨A, h1, h2, h3⟩ := RowC.at hf h
    exact ⟨A, cap, h1, h2, h3, hm⟩
end Go.Proofs.YtfebcokmnhdbmaaGreatDoor
namespace Go.Proofs.YtfebcokmnhdbmaaGreatDoor
set_option linter.unusedVariables false
set_option linter.unusedSimpArgs false
open Go.RowKit
/-- every block but rows of the element type e is as it was -/
structure KpE (e : TypeId) (W W' : World) : Prop where
  size : W.heap.size ≤ W'.heap.size
  same : ∀ (b : Nat) (o : Obj), W.heap[b]? = some o → (∀ cs f, o ≠ .cells cs e f) → W'.heap[b]? = some o
theorem KpE.refl (e : TypeId) (W : World) : KpE e W W := ⟨Nat.le_refl _, fun _ _ h _ => h⟩
theorem KpE.trans {e : TypeId} {A B C : World} (h : KpE e A B) (k : KpE e B C) : KpE e A C := ⟨Nat.le_trans h.size k.size, fun b o h1 h2 => k.same b o (h.same b o h1 h2) h2⟩
theorem KpE.bx {e t : TypeId} {W W' : World} {g : Nat} {cs : Array Value} (h : KpE e W W') (ht : t ≠ e) (hB : Bx W g t cs) : Bx W' g t cs := h.same g _ hB (fun cs' f hh => by cases hh; exact ht rfl)
theorem KpE.call {e : TypeId} {W W' : World} (h : Below W.heap.size W W') : KpE e W W' := ⟨h.size, fun b o h1 _ => (h.block b (Array.getElem?_eq_some_iff.1 h1).1).trans h1⟩
theorem KpE.set {e : TypeId} {W : World} {g : Nat} {cs : Array Value} (hB : Bx W g e cs) (i : Nat) (u : Value) : KpE e W (W.setCell ⟨g, i, none⟩ u) :=
  ⟨((Below.refl 0 W).setCell (p := ⟨g, i, none⟩) (Nat.zero_le _) u).size, fun b o h1 h2 => by
    by_cases hb : b = g
    · subst hb
      exact absurd (Option.some.inj (h1.symm.trans hB)) (h2 _ _)
    · exact (Below.heap_setCell W ⟨g, i, none⟩ u b hb).trans h1⟩
theorem KpE.sets {e : TypeId} {g : Nat} : ∀ (vs : List Value) (o : Nat) (W : World) (cs : Array Value), Bx W g e cs → KpE e W (W.setCells g o vs)
  | [], o, W, cs, h => KpE.refl _ _
  | v :: l, o, W, cs, h => (KpE.set h o v).trans (KpE.sets l (o + 1) _ _ (h.set o v))
theorem append_rowE {P : Program} (w : World) (t ty e : TypeId) (i : TypeInfo) (z : Value) (size B n m : Nat) (flat news : List Value) (v x : Value) (ht : P.underlying t = some (.slice e)) (hi : P.info? e = some i) (hz : i.zero = some z)
    (hsize : i.size = size) (hzs : z.cells.size = size) (hv : RowZ e size B n flat v w) (hB : B ≤ w.heap.size) (hs : Src P size t x m news w) (hm : 0 < m) (h63 : n + m ≤ maxLen) (hb : (n + m) * i.bytes ≤ 140737488355328) :
    ∃ v' w', (Builtin.append_ #[t, t] ty #[v, x]).run P w = .ok v' w' ∧ Below B w w' ∧ KpE e w w' ∧ RowZ e size B (n + m) (flat ++ news) v' w' := by
  rcases hv with ⟨rfl, rfl, rfl⟩ | ⟨cap, hv, hcm⟩
  · subst hsize
    have hnl := hs.newsLen
    have hold : (Builtin.firstCells i.size 0 (.slice none 0 0)).run P w.drew = .ok ([] : List Value).toArray w.drew := by simp [Builtin.firstCells, loadCells, loadCellsFrom]
    have hrun := run_append_grow_src (P := P) w t t ty e i z ht hi hz none 0 0 [] hold x m news hs (by omega) (by simp only [maxLen] at h63; omega) (growslice_fits (by omega) hb)
    have hge := grownCap_ge w (0 + m) 0 e
    refine ⟨_, _, hrun, ((Below.refl B w).drew).alloc hB _, KpE.call (((Below.refl w.heap.size w).drew).alloc (Nat.le_refl _) _), .inr ⟨_, ⟨w.heap.size, _, rfl, hB, hge, Bx.mk w.drew e _, ?_, ?_⟩, grownCap_le_maxLen w (0 + m) 0 e h63⟩⟩
    · rw [Array.size_append, List.size_toArray, List.length_append, List.length_nil, hnl, size_zeroCells, hzs, Nat.zero_add, ← Nat.add_mul]
      congr 1; omega
    · rw [Array.toList_append, List.take_append_of_le_length (by simp [hnl, Nat.add_mul])]
      rw [List.take_of_length_le (by simp [hnl, Nat.add_mul])]
  · obtain ⟨g, cells, rfl, hg, hnc, hbx, hcs, hfl⟩ := hv
    subst hsize
    have hnl := hs.newsLen
    by_cases hroom : n + m ≤ cap
    · have hle : n * i.size + news.length ≤ cells.size := by rw [hnl, hcs, ← Nat.add_mul]; exact Nat.mul_le_mul_right _ hroom
      have hrun := run_append_room_src (P := P) w t t ty e i ht hi g 0 n cap x m news hs hroom (fun j hj => by
        rw [hbx.cell (0 + n * i.size + j) (v := cells[0 + n * i.size + j]'(by omega)) (by simp)]; rfl) (fun j _ => hbx.frozen _)
      obtain ⟨cs', h1, h2, h3⟩ := hbx.setCells news (0 + n * i.size) w cells (by omega)
      refine ⟨_, _, hrun, ?_, KpE.sets _ _ _ _ hbx, .inr ⟨cap, ⟨g, cs', rfl, hg, hroom, h1, by rw [h2, hcs], ?_⟩, hcm⟩⟩
      · clear hrun h1 h2 h3 hs
        generalize 0 + n * i.size = o
        have : ∀ (vs : List Value) (o : Nat) (w' : World), Below B w w' → Below B w (w'.setCells g o vs) := by
          intro vs
          induction vs with
          | nil => intro o w' h; exact h
          | cons a l ih => intro o w' h; exact ih _ _ (h.setCell hg _)
        exact this news o w (Below.refl _ _)
      · rw [show (n + m) * i.size = 0 + n * i.size + news.length by rw [Nat.add_mul, hnl]; omega, h3, Nat.zero_add, hfl]
    · have hfl' : flat.length = n * i.size := by
        rw [← hfl, List.length_take, Array.length_toList, hcs]
        exact Nat.min_eq_left (Nat.mul_le_mul_right _ hnc)
      have hold : (Builtin.firstCells i.size n (.slice (some ⟨g, 0, none⟩) n cap)).run P w.drew = .ok flat.toArray w.drew :=
        run_firstCells_some w.drew i.size n ⟨g, 0, none⟩ n cap flat hfl' fun j u hu => by
          have hj : cells[j]? = some u := by
            rw [← hfl, List.getElem?_take] at hu
            split at hu
            · simpa using hu
            · cases hu
          rw [Addr.add_lit, Nat.zero_add]
          exact (show Bx w.drew g e cells from hbx).cell j hj
      have hrun := run_append_grow_src (P := P) w t t ty e i z ht hi hz (some ⟨g, 0, none⟩) n cap flat hold x m news hs (by omega) (by simp only [maxLen] at h63; omega) (growslice_fits (by omega) hb)
      have hge := grownCap_ge w (n + m) cap e
      refine ⟨_, _, hrun, ((Below.refl B w).drew).alloc hB _, KpE.call (((Below.refl w.heap.size w).drew).alloc (Nat.le_refl _) _), .inr ⟨_, ⟨w.heap.size, _, rfl, hB, hge, Bx.mk w.drew e _, ?_, ?_⟩, grownCap_le_maxLen w (n + m) cap e h63⟩⟩
      · rw [Array.size_append, List.size_toArray, List.length_append, hfl', hnl, size_zeroCells, hzs, ← Nat.add_mul, ← Nat.add_mul]
        congr 1; omega
      · rw [Array.toList_append, List.take_append_of_le_length (by simp [hfl', hnl, Nat.add_mul])]
        rw [List.take_of_length_le (by simp [hfl', hnl, Nat.add_mul])]
theorem wpList_append_rowE {P : Program} {w : World} {ops : Array Oper} {rest : List Oper} {o : Oper} {a : Act} {Q : Exit → Act → World → Prop} (hgd : o.guard = none) (s y : Operand) (t e : TypeId) (ho : o.op = .call { callee := .builtin .append, args := #[s, y], argTypes := #[t, t] })
    (i : TypeInfo) (z : Value) (size B n m : Nat) (flat news : List Value) (v x : Value) (ht : P.underlying t = some (.slice e)) (hi : P.info? e = some i) (hz : i.zero = some z)
    (hsize : i.size = size) (hzs : z.cells.size = size) (hes : a.eval s = v) (hey : a.eval y = x) (hv : RowZ e size B n flat v w) (hB : B ≤ w.heap.size) (hs : Src P size t x m news w) (hm : 0 < m) (h63 : n + m ≤ maxLen) (hb : (n + m) * i.bytes ≤ 140737488355328)
    (h : ∀ v' w', Below B w w' → KpE e w w' → RowZ e size B (n + m) (flat ++ news) v' w' → wpList P ops Q rest (a.put o.dst v') w') : wpList P ops Q (o :: rest) a w := by
  obtain ⟨v', w', hr, h1, h2, h3⟩ := append_rowE (P := P) w t o.type e i z size B n m flat news v x ht hi hz hsize hzs hv hB hs hm h63 hb
  refine wpList_plain hgd fun _ hK => ?_
  unfold Oper.wp execOp
  simp only [ho, resolve, invoke, builtin, Sem.run_bind, Sem.run_pure, Result.andThen_ok, List.map_toArray, List.map_cons, List.map_nil, hes, hey, hr]
  exact hK _ _ (h v' w' h1 h2 h3)
/-- one cell of a slice of one's own is set -/
theorem RowC.setAt {e : TypeId} {size B cap n : Nat} {flat : List Value} {g : Nat} {w : World} (h : RowC e size B cap n flat (.slice (some ⟨g, 0, none⟩) n cap) w) (i : Nat) (u : Value) :
    RowC e size B cap n (flat.set i u) (.slice (some ⟨g, 0, none⟩) n cap) (w.setCell ⟨g, i, none⟩ u) := by
  obtain ⟨g', cells, hv, hg, hnc, hbx, hcs, hfl⟩ := h
  cases hv
  exact ⟨g, _, rfl, hg, hnc, hbx.set i u, by simp [hcs], by rw [← hfl]; simp [List.take_set]⟩
end Go.Proofs.YtfebcokmnhdbmaaGreatDoor
namespace Go.Proofs.YtfebcokmnhdbmaaGreatDoor
set_option linter.unusedVariables false
open Go.RowKit
section
variable {P : Program}
theorem any_quiet {os : List Oper} {a : Act} {w : World} {Q : Exit → Act → World → Prop} (hB : Region.lexB .any os.toArray = true)
    (h : wpQuiet P os.toArray (fun w' => ∃ p : Regrown, w' = Sort.grow (redrawn w p.d) p.os) (fun a' => ∀ w', (∃ p : Regrown, w' = Sort.grow (redrawn w p.d) p.os) → Q .normal a' w') os a) :
    wpAny P .any os.toArray Q os.toArray.size (Array.replicate os.toArray.size false) a { w with drawn := w.drawn + 1 } := by
  simp only [Region.lexB, Bool.and_eq_true] at hB
  refine wpAny_of_quiet (C := fun w' => ∃ p : Regrown, w' = Sort.grow (redrawn w p.d) p.os) (Q := fun a' => ∀ w', (∃ p : Regrown, w' = Sort.grow (redrawn w p.d) p.os) → Q .normal a' w') (fun _ w' hw' h => h w' hw') _ _ _ _ ⟨⟨w.drawn + 1, #[]⟩, by rw [Sort.grow_empty]; rfl⟩ ?_
  have := wpAnyQ_lex (C := fun w' => ∃ p : Regrown, w' = Sort.grow (redrawn w p.d) p.os) (md := .any) hB.1 os.toArray.toList 0 (Array.replicate os.toArray.size false) a (by simp) (by simpa using hB.2) (by simpa using h)
  simpa using this
theorem wpIn_region_quiet {id l m : Nat} {os : List Oper} {a : Act} {w : World} {Q : Exit → Act → World → Prop} (hm : P.follows .mixedOrders = true) (hB : Region.lexB .any os.toArray = true) (hd : noDefer os.toArray = true)
    (h : wpQuiet P os.toArray (fun w' => ∃ p : Regrown, w' = Sort.grow (redrawn w p.d) p.os) (fun a' => ∀ w', (∃ p : Regrown, w' = Sort.grow (redrawn w p.d) p.os) → (.normal : Exit) = .normal ∧ Q .normal a' w') os a) :
    (Code.region id os.toArray true).wpIn (Fence.wide.inRound l) m P Q a w :=
  wpIn_mono (wpIn_region_any hm (wpAnyIn_of hd (by rintro ⟨_, _, h, _⟩; cases h) _ _ _ _ (any_quiet (Q := fun e a'' w'' => e = .normal ∧ Q .normal a'' w'') hB h))) (fun e a w ⟨he, h⟩ => he ▸ h)
end
end Go.Proofs.YtfebcokmnhdbmaaGreatDoor
