/- Package block: isRange, isCarrier, Valid, Find: what they answer is a function of the map's blocks and the number. Package block: Valid and Find. -/
import Derived.Test.YtlldlkjngcgcjaaGreatDoorQ02
import Derived.Shelf.Abstract
import Derived.Deep.Cut
namespace Go.Proofs.YtlldlkjngcgcjaaGreatDoor
set_option linter.unusedVariables false
set_option linter.unusedSimpArgs false
open Go.RowKit Go.Shelf
attribute [local go_sem] Oper.semAt_some
/-- a block -/
structure Blk3 where
  f : Int
  t : Int
  c : Int
def blC (b : Blk3) : List Value := [.int .i64 b.f, .int .i64 b.t, .int .i64 b.c]
def rgB (f t : Int) : Bool := decide (0 ≤ f) && (decide (f < t) && decide (t ≤ 100000000))
theorem isRange_any (f t : Int) (w : World) :
    Calls Tryz.prog 97 #[.agg #[.int .i64 f, .int .i64 t]] w fun e w' => e = .returned (.bool (rgB f t)) ∧ Below w.heap.size w w' := by
  have B := Bx.mk w 72 #[.int .i64 f, .int .i64 t]
  have hb := bNx w (.cells #[.int .i64 f, .int .i64 t] 72)
  have c0 := B.cell 0 rfl
  have c1 := B.cell 1 rfl
  clear B
  unfold rgB
  by_cases h1 : 0 ≤ f
  · have t1 : decide (0 ≤ f) = true := decide_eq_true h1
    by_cases h2 : f < t
    · have t2 : decide (f < t) = true := decide_eq_true h2
      by_cases h3 : t ≤ 100000000
      · have t3 : decide (t ≤ 100000000) = true := decide_eq_true h3
        rw [t1, t2, t3]
        go_enter Tryz.func97, Tryz.ntmps97
        go_wp2
        go_ret
        exact ⟨ret_bool (by simp), hb⟩
      · have t3 : decide (t ≤ 100000000) = false := decide_eq_false h3
        rw [t1, t2, t3]
        go_enter Tryz.func97, Tryz.ntmps97
        go_wp2
        go_ret
        exact ⟨ret_bool (by simp), hb⟩
    · have t2 : decide (f < t) = false := decide_eq_false h2
      rw [t1, t2]
      go_enter Tryz.func97, Tryz.ntmps97
      go_wp2
      go_ret
      exact ⟨ret_bool (by simp), hb⟩
  · have t1 : decide (0 ≤ f) = false := decide_eq_false h1
    rw [t1]
    go_enter Tryz.func97, Tryz.ntmps97
    go_wp2
    go_ret
    exact ⟨ret_bool (by simp), hb⟩
def caB (c : Int) : Bool := decide (0 ≤ c) && decide (c ≤ 7)
theorem isCarrier_any (c : Int) (w : World) :
    Calls Tryz.prog 98 #[.int .i64 c] w fun e w' => e = .returned (.bool (caB c)) ∧ w = w' := by
  unfold caB
  by_cases h1 : 0 ≤ c <;> by_cases h2 : c ≤ 7
  all_goals
    go_enter Tryz.func98, Tryz.ntmps98
    go_wp2
    go_ret
    exact ⟨by simp [*] <;> omega, rfl⟩
/-- a block that may not follow the last one -/
def badK (l x : Blk3) : Bool := !(rgB x.f x.t) || (!(caB x.c) || (decide (x.f < l.t) || (decide (x.f = l.t) && decide (x.c = l.c))))
set_option maxRecDepth 100000 in
set_option maxHeartbeats 4000000 in
theorem badK_any (f t c lf lt lc : Int) (g : Nat) (w : World) (hB : Bx w g 103 #[.int .i64 lf, .int .i64 lt, .int .i64 lc]) :
    Calls Tryz.prog 96 #[.agg #[.int .i64 f, .int .i64 t, .int .i64 c], .pointer (some ⟨g, 0, none⟩)] w fun e w' => e = .returned (.bool (badK ⟨lf, lt, lc⟩ ⟨f, t, c⟩)) ∧ Below g w w' ∧ Bx w' g 103 #[.int .i64 f, .int .i64 t, .int .i64 c] := by
  have hr : Kp (badK ⟨lf, lt, lc⟩ ⟨f, t, c⟩ = (!(rgB f t) || (!(caB c) || (decide (f < lt) || (decide (f = lt) && decide (c = lc)))))) := ⟨rfl⟩
  generalize badK ⟨lf, lt, lc⟩ ⟨f, t, c⟩ = r at *
  have h1 := fun w0 => isRange_any f t w0
  have h2 := fun w0 => isCarrier_any c w0
  have hlt := hB.lt
  have hb : Below g w ((w.alloc (.cells #[.int .i64 f, .int .i64 t, .int .i64 c] 103)).alloc (.cells #[.int .i64 lf, .int .i64 lt, .int .i64 lc] 103)) := ((Below.refl g w).alloc (Nat.le_of_lt hlt) _).alloc (by rw [World.size_alloc]; omega) _
  have B0 := (Bx.mk w 103 #[.int .i64 f, .int .i64 t, .int .i64 c]).new (.cells #[.int .i64 lf, .int .i64 lt, .int .i64 lc] 103)
  have BL := Bx.mk (w.alloc (.cells #[.int .i64 f, .int .i64 t, .int .i64 c] 103)) 103 #[.int .i64 lf, .int .i64 lt, .int .i64 lc]
  simp only [World.size_alloc] at BL
  have hB1 := hB.new (.cells #[.int .i64 f, .int .i64 t, .int .i64 c] 103)
  have d0 := hB1.cell 0 rfl
  have d1 := hB1.cell 1 rfl
  have d2 := hB1.cell 2 rfl
  go_enter Tryz.func96, Tryz.ntmps96
  go_upto_region 2 with fail
  replace hB := hB1.new (.cells #[.int .i64 lf, .int .i64 lt, .int .i64 lc] 103)
  clear d0 d1 d2 hB1
  generalize (w.alloc (.cells #[.int .i64 f, .int .i64 t, .int .i64 c] 103)).alloc (.cells #[.int .i64 lf, .int .i64 lt, .int .i64 lc] 103) = w2 at *
  generalize w.heap.size = g0 at *
  have e0 := B0.cell 0 rfl
  have e1 := B0.cell 1 rfl
  have e2 := B0.cell 2 rfl
  have d0 := hB.cell 0 rfl
  have d1 := hB.cell 1 rfl
  have d2 := hB.cell 2 rfl
  have f0 := hB.frozen 0
  have f1 := hB.frozen 1
  have f2 := hB.frozen 2
  go_upto_region 3 with fail
  clear e0 e1 e2 d0 d1 d2 f0 f1 f2
  have hb3 : Below g w (((w2.setCell ⟨g, 0, none⟩ (.int .i64 f)).setCell ⟨g, 1, none⟩ (.int .i64 t)).setCell ⟨g, 2, none⟩ (.int .i64 c)) := ((hb.setCell (p := ⟨g, 0, none⟩) (Nat.le_refl g) _).setCell (p := ⟨g, 1, none⟩) (Nat.le_refl g) _).setCell (p := ⟨g, 2, none⟩) (Nat.le_refl g) _
  have hB3 : Bx (((w2.setCell ⟨g, 0, none⟩ (.int .i64 f)).setCell ⟨g, 1, none⟩ (.int .i64 t)).setCell ⟨g, 2, none⟩ (.int .i64 c)) g 103 #[.int .i64 f, .int .i64 t, .int .i64 c] := ((hB.set 0 (.int .i64 f)).set 1 (.int .i64 t)).set 2 (.int .i64 c)
  replace B0 := ((B0.far (p := ⟨g, 0, none⟩) (show g0 ≠ g by omega) (.int .i64 f)).far (p := ⟨g, 1, none⟩) (show g0 ≠ g by omega) (.int .i64 t)).far (p := ⟨g, 2, none⟩) (show g0 ≠ g by omega) (.int .i64 c)
  replace BL := ((BL.far (p := ⟨g, 0, none⟩) (show g0 + 1 ≠ g by omega) (.int .i64 f)).far (p := ⟨g, 1, none⟩) (show g0 + 1 ≠ g by omega) (.int .i64 t)).far (p := ⟨g, 2, none⟩) (show g0 + 1 ≠ g by omega) (.int .i64 c)
  clear hB hb
  generalize ((w2.setCell ⟨g, 0, none⟩ (.int .i64 f)).setCell ⟨g, 1, none⟩ (.int .i64 t)).setCell ⟨g, 2, none⟩ (.int .i64 c) = w3 at *
  have e0 := B0.cell 0 rfl
  have e1 := B0.cell 1 rfl
  go_wp2_with fail
  refine (h1 _).mono ?_
  rintro _ w4 ⟨rfl, hb1⟩
  replace hb3 := hb3.trans (hb1.mono (Nat.le_of_lt hB3.lt))
  replace hB3 := hB3.call hb1
  replace B0 := B0.call hb1
  replace BL := BL.call hb1
  clear e0 e1 h1 hb1
  have e0 := B0.cell 0 rfl
  have e1 := B0.cell 1 rfl
  have e2 := B0.cell 2 rfl
  have l0 := BL.cell 0 rfl
  have l1 := BL.cell 1 rfl
  have l2 := BL.cell 2 rfl
  generalize rgB f t = r1 at *
  generalize caB c = r2 at *
  cases r1
  · obtain rfl : r = true := by rw [hr.out]; rfl
    clear hr h2
    go_wp2
    go_ret
    exact ⟨rfl, hb3, hB3⟩
  · cases r2
    · obtain rfl : r = true := by rw [hr.out]; rfl
      clear hr
      go_wp2_with (go_at_call 98; refine (h2 _).mono ?_; rintro _ _ ⟨rfl, rfl⟩)
      go_ret
      exact ⟨rfl, hb3, hB3⟩
    · by_cases q1 : f < lt
      · obtain rfl : r = true := by rw [hr.out, decide_eq_true q1]; rfl
        have t1 : decide (f < lt) = true := decide_eq_true q1
        clear hr
        go_wp2_with (go_at_call 98; refine (h2 _).mono ?_; rintro _ _ ⟨rfl, rfl⟩)
        go_ret
        exact ⟨rfl, hb3, hB3⟩
      · have t1 : decide (f < lt) = false := decide_eq_false q1
        by_cases q2 : f = lt
        · subst q2
          by_cases q3 : c = lc
          · subst q3
            obtain rfl : r = true := by rw [hr.out, decide_eq_false q1]; simp
            clear hr q1 t1
            go_wp2_with (go_at_call 98; refine (h2 _).mono ?_; rintro _ _ ⟨rfl, rfl⟩)
            go_ret
            exact ⟨ret_bool (by simp), hb3, hB3⟩
          · obtain rfl : r = false := by rw [hr.out, decide_eq_false q1, decide_eq_false q3]; simp
            clear hr q1 t1
            go_wp2_with (go_at_call 98; refine (h2 _).mono ?_; rintro _ _ ⟨rfl, rfl⟩)
            all_goals
              go_ret
              exact ⟨ret_bool (by simp [q3]), hb3, hB3⟩
        · obtain rfl : r = false := by rw [hr.out, decide_eq_false q1, decide_eq_false q2]; rfl
          clear hr
          go_wp2_with (go_at_call 98; refine (h2 _).mono ?_; rintro _ _ ⟨rfl, rfl⟩)
          all_goals
            go_ret
            exact ⟨ret_bool (by simp [q2]), hb3, hB3⟩
end Go.Proofs.YtlldlkjngcgcjaaGreatDoor
namespace Go.Proofs.YtlldlkjngcgcjaaGreatDoor
set_option linter.unusedVariables false
set_option linter.unusedSimpArgs false
open Go.RowKit Go.Shelf
attribute [local go_sem] Oper.semAt_some
def vblK : Blk3 → List Blk3 → Bool
  | _, [] => true
  | l, x :: r => !(badK l x) && vblK x r
def blV (b : List Blk3) : Bool := decide (b.length ≤ 40) && vblK ⟨0, 0, -1⟩ b
set_option maxRecDepth 100000 in
set_option maxHeartbeats 4000000 in
theorem idxV_any (bs : List Blk3) (A : Option Addr) (cap g : Nat) (w : World) (hA : At 3 blC w g A bs) (hn : bs.length ≤ cap) (hl : bs.length ≤ 9223372036854775807) (hB : Bx w g 103 #[.int .i64 0, .int .i64 0, .int .i64 (-1)]) :
    Calls Tryz.prog 49 #[.slice A bs.length cap, .func (.func 96) #[] #[.pointer (some ⟨g, 0, none⟩)]] w fun e w' => (∃ i : Int, e = .returned (.int .i64 i) ∧ (decide (0 ≤ i) = !(vblK ⟨0, 0, -1⟩ bs))) ∧ Below g w w' := by
  go_enter Tryz.func49, Tryz.ntmps49
  go_wp2
  go_loopw [8] (fun s8 wr => ∃ (k : Nat) (l : Blk3), k ≤ bs.length ∧ s8 = .int .i64 k ∧ Kp (vblK ⟨0, 0, -1⟩ bs = vblK l (bs.drop k)) ∧ Below g w wr ∧ Bx wr g 103 #[.int .i64 l.f, .int .i64 l.t, .int .i64 l.c]) (fun s8 _ => bs.length - (intOf s8).toNat)
  case atStart => exact ⟨0, ⟨0, 0, -1⟩, Nat.zero_le _, rfl, ⟨rfl⟩, Below.refl _ _, hB⟩
  case round =>
    clear hB
    obtain ⟨k, l, hk, rfl, hno, hb, hB⟩ := hrel
    by_cases hlt : k < bs.length
    · obtain ⟨b, off, rfl, hbB, hcell⟩ := hA (by omega)
      have hck : bs[k]? = some bs[k] := List.getElem?_eq_getElem hlt
      have hcl := fun (j : Nat) u (hj : (blC bs[k])[j]? = some u) => (hb.cell (p := ⟨b, off + k * 3 + j, none⟩) hbB).trans (hcell k _ hck j u hj)
      have hcl0 := hcl 0 _ rfl
      have hcl1 := hcl 1 _ rfl
      have hcl2 := hcl 2 _ rfl
      simp only [Nat.add_zero] at hcl0
      have hst : Kp (vblK ⟨0, 0, -1⟩ bs = (!(badK l bs[k]) && vblK bs[k] (bs.drop (k + 1)))) := ⟨by rw [hno.out, List.drop_eq_getElem_cons hlt]; rfl⟩
      obtain ⟨lf, lt, lc⟩ := l
      have hP := badK_any bs[k].f bs[k].t bs[k].c lf lt lc g wr hB
      have e9 : (⟨bs[k].f, bs[k].t, bs[k].c⟩ : Blk3) = bs[k] := rfl
      rw [e9] at hP
      clear hcell hA hck hno hB e9 hcl
      generalize badK ⟨lf, lt, lc⟩ bs[k] = t at *
      generalize bs[k] = x at *
      obtain ⟨xf, xt, xc⟩ := x
      dsimp only at hcl0 hcl1 hcl2 hP hst
      cases t
      · have hnx : Kp (vblK ⟨0, 0, -1⟩ bs = vblK ⟨xf, xt, xc⟩ (bs.drop (k + 1))) := ⟨by rw [hst.out]; rfl⟩
        clear hst
        go_wp2_with (refine hP.mono ?_; rintro _ w1 ⟨rfl, hb1, hB1⟩; clear hP)
        exact ⟨⟨k + 1, ⟨xf, xt, xc⟩, by omega, by go_num, hnx, hb.trans hb1, hB1⟩, by simp [intOf]; omega⟩
      · have hnx : Kp (vblK ⟨0, 0, -1⟩ bs = false) := ⟨by rw [hst.out]; rfl⟩
        clear hst
        go_wp2_with (refine hP.mono ?_; rintro _ w1 ⟨rfl, hb1, hB1⟩; clear hP)
        go_ret
        exact ⟨⟨k, rfl, by rw [hnx.out]; simp⟩, hb.trans hb1⟩
    · have hfin : Kp (vblK ⟨0, 0, -1⟩ bs = true) := ⟨by rw [hno.out, List.drop_of_length_le (by omega)]; rfl⟩
      clear hno hA
      go_wp2
      go_ret
      exact ⟨⟨-1, rfl, by rw [hfin.out]; rfl⟩, hb⟩
theorem conV_any (bs : List Blk3) (A : Option Addr) (cap g : Nat) (w : World) (hA : At 3 blC w g A bs) (hn : bs.length ≤ cap) (hl : bs.length ≤ 9223372036854775807) (hB : Bx w g 103 #[.int .i64 0, .int .i64 0, .int .i64 (-1)]) :
    Calls Tryz.prog 99 #[.slice A bs.length cap, .func (.func 96) #[] #[.pointer (some ⟨g, 0, none⟩)]] w fun e w' => e = .returned (.bool (!(vblK ⟨0, 0, -1⟩ bs))) ∧ Below g w w' := by
  have hI := idxV_any bs A cap g w hA hn hl hB
  generalize (!(vblK ⟨0, 0, -1⟩ bs)) = r at *
  clear hA hB
  go_enter Tryz.func99, Tryz.ntmps99
  go_wp2_with fail
  refine hI.mono ?_
  rintro _ w1 ⟨⟨i, rfl, hd⟩, hb1⟩
  have hdK := Kp.mk hd
  clear hI hd
  go_wp2
  go_ret
  exact ⟨ret_bool hdK.out, hb1⟩
set_option maxRecDepth 100000 in
set_option maxHeartbeats 4000000 in
theorem blValid_any (bs : List Blk3) (A : Option Addr) (cap : Nat) (w : World) (hA : At 3 blC w w.heap.size A bs) (hn : bs.length ≤ cap) (hl : bs.length ≤ 9223372036854775807) :
    Calls Tryz.prog 51 #[.slice A bs.length cap] w fun e w' => e = .returned (.bool (blV bs)) ∧ Below w.heap.size w w' := by
  have hr : Kp (blV bs = (decide (bs.length ≤ 40) && vblK ⟨0, 0, -1⟩ bs)) := ⟨rfl⟩
  generalize blV bs = r at *
  have hb := bNx w (.cells #[.int .i64 0, .int .i64 0, .int .i64 (-1)] 103)
  have B := Bx.mk w 103 #[.int .i64 0, .int .i64 0, .int .i64 (-1)]
  have hK := conV_any bs A cap w.heap.size _ (hA.below hb) hn hl B
  clear hA B
  generalize vblK ⟨0, 0, -1⟩ bs = r2 at *
  by_cases h40 : bs.length ≤ 40
  · have ht : decide ((bs.length : Int) ≤ 40) = true := decide_eq_true (by omega)
    rw [decide_eq_true h40] at hr
    obtain rfl : r = r2 := by rw [hr.out]; simp
    clear h40 hr
    go_enter Tryz.func51, Tryz.ntmps51
    go_wp2_with fail
    refine hK.mono ?_
    rintro _ w1 ⟨rfl, hb1⟩
    clear hK
    go_wp2
    go_ret
    exact ⟨ret_bool (by simp), hb.trans hb1⟩
  · have ht : decide ((bs.length : Int) ≤ 40) = false := decide_eq_false (by omega)
    rw [decide_eq_false h40] at hr
    obtain rfl : r = false := by rw [hr.out]; rfl
    clear h40 hr hK
    go_enter Tryz.func51, Tryz.ntmps51
    go_wp2
    go_ret
    exact ⟨ret_bool rfl, hb⟩
def inBl (n : Int) (b : Blk3) : Bool := decide (b.f ≤ n) && decide (n < b.t)
theorem find1_any (f t c n : Int) (g : Nat) (w : World) (hB : Bx w g 3 #[.int .i64 n]) :
    Calls Tryz.prog 50 #[.agg #[.int .i64 f, .int .i64 t, .int .i64 c], .pointer (some ⟨g, 0, none⟩)] w fun e w' => e = .returned (.bool (inBl n ⟨f, t, c⟩)) ∧ Below w.heap.size w w' := by
  have hr : Kp (inBl n ⟨f, t, c⟩ = (decide (f ≤ n) && decide (n < t))) := ⟨rfl⟩
  generalize inBl n ⟨f, t, c⟩ = r at *
  have B := Bx.mk w 103 #[.int .i64 f, .int .i64 t, .int .i64 c]
  have hb := bNx w (.cells #[.int .i64 f, .int .i64 t, .int .i64 c] 103)
  replace hB := hB.new (.cells #[.int .i64 f, .int .i64 t, .int .i64 c] 103)
  have c0 := B.cell 0 rfl
  have c1 := B.cell 1 rfl
  have n0 := hB.cell 0 rfl
  clear B hB
  by_cases h1 : f ≤ n
  · have t1 : decide (f ≤ n) = true := decide_eq_true h1
    by_cases h2 : n < t
    · have t2 : decide (n < t) = true := decide_eq_true h2
      obtain rfl : r = true := by rw [hr.out, t1, t2]; rfl
      clear hr
      go_enter Tryz.func50, Tryz.ntmps50
      go_wp2
      go_ret
      exact ⟨ret_bool (by simp), hb⟩
    · have t2 : decide (n < t) = false := decide_eq_false h2
      obtain rfl : r = false := by rw [hr.out, t1, t2]; rfl
      clear hr
      go_enter Tryz.func50, Tryz.ntmps50
      go_wp2
      go_ret
      exact ⟨ret_bool (by simp), hb⟩
  · have t1 : decide (f ≤ n) = false := decide_eq_false h1
    obtain rfl : r = false := by rw [hr.out, t1]; rfl
    clear hr
    go_enter Tryz.func50, Tryz.ntmps50
    go_wp2
    go_ret
    exact ⟨ret_bool (by simp), hb⟩
set_option maxRecDepth 100000 in
set_option maxHeartbeats 4000000 in
theorem idxF_any (l : List Blk3) (A : Option Addr) (cap g : Nat) (n : Int) (w : World) (hA : At 3 blC w w.heap.size A l) (hn : l.length ≤ cap) (hl : l.length ≤ 9223372036854775807) (hB : Bx w g 3 #[.int .i64 n]) :
    Calls Tryz.prog 49 #[.slice A l.length cap, .func (.func 50) #[] #[.pointer (some ⟨g, 0, none⟩)]] w fun e w' => e = .returned (.int .i64 (idxI (inBl n) l)) ∧ Below w.heap.size w w' := by
  obtain ⟨p, hp⟩ : ∃ p : Blk3 → Bool, p = inBl n := ⟨_, rfl⟩
  have hq : ∀ (r : Blk3) W, Below w.heap.size w W → Calls Tryz.prog 50 #[.agg #[.int .i64 r.f, .int .i64 r.t, .int .i64 r.c], .pointer (some ⟨g, 0, none⟩)] W fun e w' => e = .returned (.bool (p r)) ∧ Below W.heap.size W w' := fun r W h => by
    rw [hp]; exact find1_any r.f r.t r.c n g W (hB.below h hB.lt)
  rw [← hp]
  clear hp
  go_enter Tryz.func49, Tryz.ntmps49
  go_wp2
  go_loopw [8] (fun s8 wr => ∃ k : Nat, k ≤ l.length ∧ s8 = .int .i64 k ∧ Kp (∀ (j : Nat) (hj : j < l.length), j < k → p l[j] = false) ∧ Below w.heap.size w wr) (fun s8 _ => l.length - (intOf s8).toNat)
  case atStart => exact ⟨0, Nat.zero_le _, rfl, ⟨fun j hj h => by omega⟩, bStart _⟩
  case round =>
    obtain ⟨k, hk, rfl, hno, hb⟩ := hrel
    by_cases hlt : k < l.length
    · obtain ⟨b, off, rfl, hbB, hcell⟩ := hA (by omega)
      have hck : l[k]? = some l[k] := List.getElem?_eq_getElem hlt
      have hcl := fun (j : Nat) u (hj : (blC l[k])[j]? = some u) => (hb.cell (p := ⟨b, off + k * 3 + j, none⟩) hbB).trans (hcell k _ hck j u hj)
      have hcl0 := hcl 0 _ rfl
      have hcl1 := hcl 1 _ rfl
      have hcl2 := hcl 2 _ rfl
      simp only [Nat.add_zero] at hcl0
      have hP := hq l[k] wr hb
      have hh := fun (h : p l[k] = true) => idx_hit hlt h (fun j hj => hno.out j (by omega) hj)
      have hnx : Kp (p l[k] = false → ∀ (j : Nat) (hj : j < l.length), j < k + 1 → p l[j] = false) := ⟨fun h j hj hjk => by
        rcases Nat.lt_or_ge j k with h1 | h1
        · exact hno.out j hj h1
        · obtain rfl : j = k := by omega
          exact h⟩
      have hfin : Kp (p l[k] = true → idxI p l = k) := ⟨hh⟩
      clear hcell hA hck hno hh hq hcl hB
      generalize p l[k] = t at *
      generalize l[k] = x at *
      cases t
      · go_wp2_with (refine hP.mono ?_; rintro _ w1 ⟨rfl, hb1⟩; clear hP)
        exact ⟨⟨k + 1, by omega, by go_num, ⟨by first | exact hnx.out rfl | exact hnx.out trivial⟩, bCall hb hb1⟩, by simp [intOf]; omega⟩
      · go_wp2_with (refine hP.mono ?_; rintro _ w1 ⟨rfl, hb1⟩; clear hP)
        go_ret
        exact ⟨ret_int (by first | exact (hfin.out rfl).symm | exact (hfin.out trivial).symm), bCall hb hb1⟩
    · have hfin : Kp (idxI p l = -1) := ⟨idx_none fun j hj => hno.out j hj (by omega)⟩
      clear hno hq hB
      go_wp2
      go_ret
      exact ⟨ret_int hfin.out.symm, hb⟩
/-- what Find answers -/
def findR (bs : List Blk3) (n : Int) : Int × Bool := if idxI (inBl n) bs < 0 then (0, false) else if blV bs then ((bs[(idxI (inBl n) bs).toNat]?.getD ⟨0, 0, 0⟩).c, true) else (0, false)
theorem idx_ways (p : Blk3 → Bool) (l : List Blk3) : idxI p l = -1 ∨ ∃ k : Nat, k < l.length ∧ idxI p l = k := by
  by_cases h : ∃ (k : Nat) (hk : k < l.length), p l[k] = true ∧ ∀ (j : Nat) (hj : j < k), p (l[j]'(by omega)) = false
  · obtain ⟨k, hk, h1, h2⟩ := h
    exact .inr ⟨k, hk, idx_hit hk h1 fun j hj => h2 j hj⟩
  · refine .inl (idx_none fun j => ?_)
    induction j using Nat.strongRecOn with
    | ind j ih =>
      intro hj
      cases hp : p l[j] with
      | false => rfl
      | true => exact absurd ⟨j, hj, hp, fun i hi => ih i hi (by omega)⟩ h
set_option maxRecDepth 100000 in
set_option maxHeartbeats 4000000 in
theorem find_any (bs : List Blk3) (A : Option Addr) (cap : Nat) (n : Int) (w : World) (hA : At 3 blC w w.heap.size A bs) (hn : bs.length ≤ cap) (hl : bs.length ≤ 9223372036854775807) :
    Calls Tryz.prog 15 #[.slice A bs.length cap, .int .i64 n] w fun e w' => e = .returned (.tuple #[.int .i64 (findR bs n).1, .bool (findR bs n).2]) ∧ Below w.heap.size w w' := by
  have hr : Kp (findR bs n = if idxI (inBl n) bs < 0 then (0, false) else if blV bs then ((bs[(idxI (inBl n) bs).toNat]?.getD ⟨0, 0, 0⟩).c, true) else (0, false)) := ⟨rfl⟩
  generalize findR bs n = r at *
  have hb := bNx w (.cells #[.int .i64 n] 3)
  have B := Bx.mk w 3 #[.int .i64 n]
  have hA1 := hA.callx hb
  have hI := idxF_any bs A cap w.heap.size n _ hA1 hn hl B
  have hV := fun w0 hw => blValid_any bs A cap w0 hw hn hl
  rcases idx_ways (inBl n) bs with h1 | ⟨k, hk, h1⟩
  · rw [h1] at hI
    obtain rfl : r = (0, false) := by rw [hr.out, h1]; rfl
    clear hr h1 hV B hA hA1
    go_enter Tryz.func15, Tryz.ntmps15
    go_wp2_with fail
    refine hI.mono ?_
    rintro _ w1 ⟨rfl, hb1⟩
    clear hI
    go_wp2_with fail
    refine bodyPost_ret (v := .tuple #[.int .i64 0, .bool false]) (by simp [results, Tryz.results15, go_sem]) rfl ?_
    exact ⟨rfl, bCall hb hb1⟩
  · rw [h1] at hI
    obtain ⟨b, off, rfl, hbB, hcell⟩ := hA.run (Nat.le_refl _) hk
    have hc2 : ∀ W, Below w.heap.size w W → W.cell? ⟨b, off + k * 3 + 2, none⟩ = some (.int .i64 bs[k].c) := fun W hW => hcell W hW 2 _ rfl
    have tk : decide ((k : Int) < 0) = false := decide_eq_false (by omega)
    cases hv : blV bs with
    | false =>
      obtain rfl : r = (0, false) := by rw [hr.out, h1, if_neg (by omega), hv]; rfl
      rw [hv] at hV
      clear hr h1 B hA hcell hc2 hv
      go_enter Tryz.func15, Tryz.ntmps15
      go_wp2_with fail
      refine hI.mono ?_
      rintro _ w1 ⟨rfl, hb1⟩
      have hV1 := hV w1 (hA1.callx hb1)
      clear hI hV
      go_wp2_with fail
      refine hV1.mono ?_
      rintro _ w2 ⟨rfl, hb2⟩
      clear hV1
      go_wp2_with fail
      refine bodyPost_ret (v := .tuple #[.int .i64 0, .bool false]) (by simp [results, Tryz.results15, go_sem]) rfl ?_
      exact ⟨rfl, bCall (bCall hb hb1) hb2⟩
    | true =>
      obtain rfl : r = (bs[k].c, true) := by rw [hr.out, h1, if_neg (by omega), hv]; simp [hk]
      rw [hv] at hV
      clear hr h1 B hA hcell hv
      generalize bs[k].c = xc at *
      go_enter Tryz.func15, Tryz.ntmps15
      go_wp2_with fail
      refine hI.mono ?_
      rintro _ w1 ⟨rfl, hb1⟩
      have hV1 := hV w1 (hA1.callx hb1)
      clear hI hV
      go_wp2_with fail
      refine hV1.mono ?_
      rintro _ w2 ⟨rfl, hb2⟩
      have c2 := hc2 _ (bCall (bCall hb hb1) hb2)
      clear hV1 hc2 hA1
      go_wp2_with fail
      refine bodyPost_ret (v := .tuple #[.int .i64 xc, .bool true]) (by simp [results, Tryz.results15, go_sem]) rfl ?_
      exact ⟨rfl, bCall (bCall hb hb1) hb2⟩
end Go.Proofs.YtlldlkjngcgcjaaGreatDoor
