/- text of package integer. -/
import Derived.Test.YtdjnkaeggnkgeaaGreatDoorIBuild
import Derived.Test.YtdjnkaeggnkgeaaGreatDoorITx
namespace Go.Proofs.YtdjnkaeggnkgeaaGreatDoor
set_option linter.unusedVariables false
set_option linter.unusedSimpArgs false
open Go.RowKit Go.Shelf
attribute [local go_sem] Oper.semAt_some
theorem own_call {B n : Nat} {v : Value} {bs : List Value} {w w' : World} (h : w.ownsRow B 5 1 v n bs) (hb : Below w.heap.size w w') : w'.ownsRow B 5 1 v n bs := by
  refine ⟨h.1, ?_⟩
  rcases h.2 with h1 | ⟨g, cap, cur, h1, h2, h3, h4⟩
  · exact .inl h1
  · exact .inr ⟨g, cap, cur, h1, h2, (hb.block g (Array.getElem?_eq_some_iff.1 h3).1).trans h3, h4⟩
theorem bat_call {B b : Nat} {p : Value} {bs : List Value} {w w' : World} (h : Lib.BuilderAt 76 5 B b p bs w) (hb : Below w.heap.size w w') : Lib.BuilderAt 76 5 B b p bs w' := by
  have hlt := h.lt
  obtain ⟨h1, v, h2, h3, h4⟩ := h
  exact ⟨h1, v, (hb.block b hlt).trans h2, own_call h3 hb, h4⟩
theorem bld_call {B b : Nat} {bs : List Value} {w w' : World} (h : Lib.IsBuilder 76 5 B b bs w) (hb : Below w.heap.size w w') : Lib.IsBuilder 76 5 B b bs w' :=
  h.elim (fun h => .inl (bat_call h hb)) (fun h => .inr (bat_call h hb))
theorem bld_lt {B b : Nat} {bs : List Value} {w : World} (h : Lib.IsBuilder 76 5 B b bs w) : b < w.heap.size := h.elim (fun h => h.lt) (fun h => h.lt)
theorem own_kept {B n : Nat} {v : Value} {bs : List Value} {W W' : World} {row : Option Nat} (h : W.ownsRow B 5 1 v n bs) (hg : W.grownBy W' row) (hr : ∀ r, row = some r → ∃ o : Obj, W.heap[r]? = some o ∧ o.isCells = false) : W'.ownsRow B 5 1 v n bs := by
  refine ⟨h.1, ?_⟩
  rcases h.2 with h1 | ⟨g, cap, cur, h1, h2, h3, h4⟩
  · exact .inl h1
  · exact .inr ⟨g, cap, cur, h1, h2, bx_kept (show Bx W g 5 cur from h3) hg hr, h4⟩
theorem bat_kept {B b : Nat} {p : Value} {bs : List Value} {W W' : World} {row : Option Nat} (h : Lib.BuilderAt 76 5 B b p bs W) (hg : W.grownBy W' row) (hr : ∀ r, row = some r → ∃ o : Obj, W.heap[r]? = some o ∧ o.isCells = false) : Lib.BuilderAt 76 5 B b p bs W' := by
  obtain ⟨h1, v, h2, h3, h4⟩ := h
  exact ⟨h1, v, bx_kept (show Bx W b 76 #[p, v] from h2) hg hr, own_kept h3 hg hr, h4⟩
theorem bld_kept {B b : Nat} {bs : List Value} {W W' : World} {row : Option Nat} (h : Lib.IsBuilder 76 5 B b bs W) (hg : W.grownBy W' row) (hr : ∀ r, row = some r → ∃ o : Obj, W.heap[r]? = some o ∧ o.isCells = false) : Lib.IsBuilder 76 5 B b bs W' :=
  h.elim (fun h => .inl (bat_kept h hg hr)) (fun h => .inr (bat_kept h hg hr))
theorem others_from {b : Nat} {W W' : World} (h : Lib.OthersKept 5 (some b) W W') (hs : W.heap.size ≤ W'.heap.size) {B : Nat} (hB : b < B) : KeepsFrom B W W' := ⟨hs, fun k o hk ho hc => h k o ho (by simp; omega) (fun c fz e => by rw [e] at hc; cases hc)⟩
theorem others_bx {b g : Nat} {t : TypeId} {cs : Array Value} {W W' : World} (h : Lib.OthersKept 5 (some b) W W') (hB : Bx W g t cs) (hg : g ≠ b) (ht : t ≠ 5) : Bx W' g t cs := h g _ hB (by simp; omega) (fun c fz e => by simp only [Obj.cells.injEq] at e; exact ht e.2.1)
def d_len (d : Nat) : Nat := (Lib.decDigits d).length
theorem rep_zero (k : Nat) : Lib.repeatL [48] k = List.replicate k 48 := by
  induction k with
  | zero => rfl
  | succ k ih => rw [List.replicate_succ, ← ih]; simp [Lib.repeatL, List.replicate_succ]
/-- between two rounds of text -/
structure TextI (w : World) (neg : Bool) (v : Value) (l : List Int) (pre : List (Fin l.length)) (W : World) : Prop where
  hb : Below w.heap.size w W
  le : w.heap.size + 3 ≤ W.heap.size
  B1 : Bx W w.heap.size 50 #[.bool neg, v]
  Bb : Lib.IsBuilder 76 5 (w.heap.size + 1) (w.heap.size + 1) (Lib.byteCells (txt l pre)) W
  B3 : Bx W (w.heap.size + 1 + 1) 48 #[v]
theorem TextI.kept {w W W' : World} {neg : Bool} {v : Value} {l : List Int} {pre : List (Fin l.length)} {row : Option Nat} (h : TextI w neg v l pre W) (hg : W.grownBy W' row) (hr : ∀ r, row = some r → w.heap.size ≤ r ∧ ∃ o : Obj, W.heap[r]? = some o ∧ o.isCells = false) : TextI w neg v l pre W' :=
  ⟨h.hb.grown hg h.hb.size (fun k e => (hr k e).1), Nat.le_trans h.le hg.size, bx_kept h.B1 hg (fun r e => (hr r e).2), bld_kept h.Bb hg (fun r e => (hr r e).2), bx_kept h.B3 hg (fun r e => (hr r e).2)⟩
set_option maxRecDepth 100000 in
set_option maxHeartbeats 4000000 in
theorem text_zero (neg : Bool) (A1 : Option Addr) (c1 : Nat) (w : World) :
    Calls Tryz.prog 40 #[.agg #[.bool neg, .slice A1 0 c1]] w fun e w' => e = .returned (.tuple #[.string ⟨#[48]⟩, .int .i64 0]) ∧ Below w.heap.size w w' := by
  have hb := bNewW w (.cells #[.bool neg, .slice A1 0 c1] 50)
  go_enter Tryz.func40, Tryz.ntmps40
  go_wp2
  go_ret2
  exact ⟨rfl, hb⟩
set_option maxRecDepth 100000 in
set_option maxHeartbeats 4000000 in
theorem text_pos (neg : Bool) (a : Nat) (A1 : Option Addr) (c1 : Nat) (w : World) (hA1 : At 1 intC w w.heap.size A1 (Ig.grp a)) (hn1 : (Ig.grp a).length ≤ c1) (h0 : a ≠ 0) (la : (Ig.grp a).length ≤ 50000) (hE : Env w) (r : List UInt8) (k : Int)
    (hr1 : Lib.nDigits a ≤ 200 → Kp (r = (if neg then 45 :: Lib.decDigits a else Lib.decDigits a) ∧ k = 0)) (hr2 : ¬ Lib.nDigits a ≤ 200 → Kp (r = [] ∧ k = 30)) :
    Calls Tryz.prog 40 #[.agg #[.bool neg, .slice A1 (Ig.grp a).length c1]] w fun e w' => e = .returned (.tuple #[.string ⟨r.toArray⟩, .int .i64 k]) ∧ Below w.heap.size w w' := by
  have hl0 : (Ig.grp a).length ≠ 0 := fun e => h0 (Ig.grp_eq_nil.1 e)
  have t0 : decide (((Ig.grp a).length : Int) = 0) = false := decide_eq_false (by omega)
  have t1 : (((Ig.grp a).length : Int) == 0) = false := beq_eq_false_iff_ne.2 (by omega)
  refine (callsIn_wide (n := 3)).1 ?_
  refine callsIn_of_wp_marks Tryz.func40 rfl trivial ?_ rfl
  simp only [Tryz.ntmps40, List.size_toArray, List.length_cons, List.length_nil, Nat.reduceAdd, Nat.reduceSub, Array.replicate_succ, Array.replicate_zero, List.push_toArray, List.append_toArray, List.nil_append, List.cons_append]
  gi_wp2_with (refine ⟨trivial, ?_⟩; gi_at_call 60; refine (back_in Fence.wide 2 trivial rfl _ _ _ _).mono ?_; rintro e w' ⟨rfl, rfl⟩)
  have hb0 := bNew (bNew (bNewW w (.cells #[.bool neg, .slice A1 (Ig.grp a).length c1] 50)) (.cells #[.pointer none, .slice none 0 0] 76)) (.cells #[.slice A1 (Ig.grp a).length c1] 48)
  have B1 := ((Bx.mk w 50 #[.bool neg, .slice A1 (Ig.grp a).length c1]).new (.cells #[.pointer none, .slice none 0 0] 76)).new (.cells #[.slice A1 (Ig.grp a).length c1] 48)
  have Bb := bld_call (Lib.fresh_isBuilder 76 5 (w.alloc (.cells #[.bool neg, .slice A1 (Ig.grp a).length c1] 50))) (bNewW _ (.cells #[.slice A1 (Ig.grp a).length c1] 48))
  have B7 := Bx.mk ((w.alloc (.cells #[.bool neg, .slice A1 (Ig.grp a).length c1] 50)).alloc (.cells #[.pointer none, .slice none 0 0] 76)) 48 #[.slice A1 (Ig.grp a).length c1]
  have hsz : (((w.alloc (.cells #[.bool neg, .slice A1 (Ig.grp a).length c1] 50)).alloc (.cells #[.pointer none, .slice none 0 0] 76)).alloc (.cells #[.slice A1 (Ig.grp a).length c1] 48)).heap.size = w.heap.size + 3 := by rw [alloc_size, alloc_size, alloc_size]
  rw [alloc_size] at Bb
  rw [alloc_size, alloc_size] at B7
  generalize (((w.alloc (.cells #[.bool neg, .slice A1 (Ig.grp a).length c1] 50)).alloc (.cells #[.pointer none, .slice none 0 0] 76)).alloc (.cells #[.slice A1 (Ig.grp a).length c1] 48)) = W0 at *
  refine wpIn_rangeFunc_ownG rfl (by decide) (gf := 78) (lb := #[.pointer (some ⟨w.heap.size + 1 + 1, 0, none⟩)]) rfl trivial (enters_of Tryz.func78 (by kernel_rfl) rfl)
    (back_stops Fence.wide 2 trivial rfl (by decide) (w.heap.size + 1 + 1) w.heap.size A1 c1 (Ig.grp a) (by omega) W0 (by omega) (by omega) (B7.cell 0 rfl) (hA1.below hb0)) KpB.trans (kpB_b (by omega) (by omega)) (Below.refl _ _) (fun _ => rfl)
    (fun pre W => TextI w neg (.slice A1 (Ig.grp a).length c1) (Ig.grp a) pre W) (fun _ _ _ => False)
    (fun pre W W' row hs hg hr => hs.kept hg (fun r e => ⟨by have := (hr r e).1; omega, (hr r e).2⟩))
    (fun _ _ _ _ _ hs _ _ => hs)
    ⟨hb0, by omega, B1, Bb, B7⟩
    (fun x => { tmps := #[.agg #[.bool neg, .slice A1 (Ig.grp a).length c1], .pointer (some ⟨w.heap.size, 0, none⟩), .string ⟨#[]⟩, .int .i64 0, .pointer (some ⟨w.heap.size + 1, 0, none⟩), .int .i64 (x.1 : Int), .int .i64 (Ig.grp a)[x.1], undef, undef, .pointer (some ⟨w.heap.size, 1, none⟩), .slice A1 (Ig.grp a).length c1, .int .i64 ((Ig.grp a).length : Int), .bool false, .pointer (some ⟨w.heap.size, 1, none⟩), .slice A1 (Ig.grp a).length c1,
      .func (.func 78) #[] #[.pointer (some ⟨w.heap.size + 1 + 1, 0, none⟩)], .int .i64 (x.1 : Int), .int .i64 (Ig.grp a)[x.1], undef, undef, undef, undef, undef, undef, undef, undef, undef, undef, undef, undef, undef, undef, undef, undef, undef, undef, undef, undef, undef, undef, undef, undef, undef], defers := [] }) ?assign ?body ?done ?stop
  case assign =>
    intro l x W K hK
    simp only [handed]
    gi_wp2
    exact hK
  case body =>
    rintro l pre x W ⟨hb, hle, B1, Bb, B3⟩ hlt
    have hgx := Ig.gr_grp a (Ig.grp a)[x.1] (List.getElem_mem x.2)
    obtain ⟨d, hd⟩ := Int.eq_ofNat_of_zero_le hgx.1
    have hd9 : d < 10000 := by omega
    have hsn := txt_snoc (Ig.grp a) pre x
    have htl := txt_len (Ig.gr_grp a) pre
    rw [hd, Int.toNat_natCast] at hsn
    have hit : Lib.itoa (d : Int) = Lib.decDigits d := by rw [Ig.itoa_nonneg (by omega), Int.natAbs_natCast]
    have hI := Itoa_any (d : Int) W (by omega) (by omega) (hE.below hb)
    rw [hit] at hI
    have hdl := Ig.dec_len d
    have hd4 := Ig.nd4 hd9
    simp only [hd]
    clear hgx hd hit
    have hc1 := fun w1 (hb1 : Below W.heap.size W w1) => (B1.call hb1).cell 1 rfl
    by_cases hx : x.1 + 1 < (Ig.grp a).length
    · have t2 : decide ((x.1 : Int) < ((Ig.grp a).length : Int) - 1) = true := by simp; omega
      have hR := fun w1 => Repeat_any [48] (4 - (d_len d : Int)) w1 (by unfold d_len; omega) (by unfold d_len; omega) (by decide)
      have hpad : Lib.repeatL [48] (4 - (d_len d : Int)).toNat ++ Lib.decDigits d = Ig.four d := by
        rw [← Ig.pad_four hd9, rep_zero]
        unfold d_len
        rw [hdl, show (4 - ((Lib.nDigits d : Nat) : Int)).toNat = 4 - Lib.nDigits d by omega]
      rw [if_pos hx, ← hpad] at hsn
      have hlr : (Lib.repeatL [48] (4 - (d_len d : Int)).toNat ++ Lib.decDigits d).length = 4 := by rw [hpad]; rfl
      have hs4 : (Lib.decDigits d).length ≤ 4 := by rw [hdl]; exact hd4
      clear hpad hdl hd4
      unfold d_len at hR hlr hsn
      generalize Lib.decDigits d = s at *
      gi_wp2_with fail
      refine ⟨trivial, ((callsIn_wide.2 hI).inRound _).mono ?_⟩
      rintro _ w1 ⟨rfl, hb1⟩
      have c1' := hc1 w1 hb1
      clear hc1 hI
      gi_wp2_with fail
      refine ⟨trivial, ((callsIn_wide.2 (hR _)).inRound _).mono ?_⟩
      rintro _ w2 ⟨rfl, hb2⟩
      have hb12 := bCall hb1 hb2
      have hW := WriteString_any (w.heap.size + 1) (w.heap.size + 1) _ (Lib.repeatL [48] (4 - (s.length : Int)).toNat ++ s) w2 (bld_call Bb hb12) (by rw [Lib.byteCells_length, hlr]; omega) (by have := hb12.size; omega)
      rw [← Lib.byteCells_append, ← hsn] at hW
      rw [List.length_append] at hlr
      clear hR hsn
      generalize Lib.repeatL [48] (4 - (s.length : Int)).toNat = s2 at *
      have hnl : ¬ 9223372036854775807 < s2.length + s.length := by omega
      clear hlr
      gi_wp2_with fail
      refine ⟨trivial, ((callsIn_wide.2 hW).inRound _).mono ?_⟩
      rintro _ w3 ⟨rfl, hb3, hb4, hk4⟩
      gi_wp2
      have hs3 := hb4.size
      have hB1 := (B1.call hb12).below hb4 (Nat.lt_succ_self _)
      have hB3 := others_bx hk4 (B3.call hb12) (by omega) (by decide)
      have hb5 := (bCall hb hb12).trans (hb4.mono (Nat.le_succ _))
      exact ⟨(keeps_below hb12 W0.heap.size).trans (others_from hk4 hs3 (by omega)), ⟨(hb12.mono (by omega)).trans (hb4.mono (Nat.le_succ _)), hB3.trans B3.symm⟩, hb5, Nat.le_trans hle (Nat.le_trans hb12.size hs3), hB1, .inr hb3, hB3⟩
    · have t2 : decide ((x.1 : Int) < ((Ig.grp a).length : Int) - 1) = false := by simp; omega
      rw [if_neg hx] at hsn
      have hs4 : (Lib.decDigits d).length ≤ 4 := by rw [hdl]; exact hd4
      clear hdl hd4
      generalize Lib.decDigits d = s at *
      gi_wp2_with fail
      refine ⟨trivial, ((callsIn_wide.2 hI).inRound _).mono ?_⟩
      rintro _ w2 ⟨rfl, hb12⟩
      have c1' := hc1 w2 hb12
      clear hc1 hI
      have hW := WriteString_any (w.heap.size + 1) (w.heap.size + 1) _ s w2 (bld_call Bb hb12) (by rw [Lib.byteCells_length]; omega) (by have := hb12.size; omega)
      rw [← Lib.byteCells_append, ← hsn] at hW
      gi_wp2_with fail
      refine ⟨trivial, ((callsIn_wide.2 hW).inRound _).mono ?_⟩
      rintro _ w3 ⟨rfl, hb3, hb4, hk4⟩
      gi_wp2
      have hs3 := hb4.size
      have hB1 := (B1.call hb12).below hb4 (Nat.lt_succ_self _)
      have hB3 := others_bx hk4 (B3.call hb12) (by omega) (by decide)
      have hb5 := (bCall hb hb12).trans (hb4.mono (Nat.le_succ _))
      exact ⟨(keeps_below hb12 W0.heap.size).trans (others_from hk4 hs3 (by omega)), ⟨(hb12.mono (by omega)).trans (hb4.mono (Nat.le_succ _)), hB3.trans B3.symm⟩, hb5, Nat.le_trans hle (Nat.le_trans hb12.size hs3), hB1, .inr hb3, hB3⟩
  case done =>
    rintro D ys W hD rfl ⟨hb, hle, B1, Bb, B3⟩ hK
    rw [txt_all h0] at Bb
    have hS := BString_any _ _ _ _ Bb (Ig.dec_ne a)
    have hdl := Ig.dec_len a
    have c0 := fun w1 (hb1 : Below (w.heap.size + 1) W w1) => (B1.below hb1 (Nat.lt_succ_self _)).cell 0 rfl
    have hKk : ∀ w1, Lib.OthersKept 5 (some (w.heap.size + 1)) W w1 → w1.heap[D]? = some (.deferred (some [])) := fun w1 h1 => h1 D _ hK (by simp; omega) (fun c fz e => by cases e)
    have hDw : w.heap.size ≤ D := by omega
    clear B1 Bb B3 hK hD
    by_cases hnd : Lib.nDigits a ≤ 200
    · have hfin := hr1 hnd
      have t3 : decide (((Lib.decDigits a).length : Int) > 200) = false := decide_eq_false (by rw [hdl]; omega)
      have hnl : ¬ 9223372036854775807 < (Lib.decDigits a).length := by rw [hdl]; omega
      have hnl2 : ¬ 9223372036854775807 < 1 + (Lib.decDigits a).length := by rw [hdl]; omega
      clear hdl
      generalize Lib.decDigits a = s at *
      gi_wp2_with fail
      refine ⟨trivial, (callsIn_wide.2 hS).mono ?_⟩
      rintro _ w1 ⟨rfl, hb1, hk1⟩
      have hK := hKk w1 hk1
      have c1' := c0 w1 hb1
      have hb2 := hb.trans (hb1.mono (Nat.le_succ _))
      clear hS hKk c0 hk1 hb1 hb
      have hg := grownBy_putObj' w1 D (.deferred none)
      have hbf : Below w.heap.size w (w1.putObj D (.deferred none)) := hb2.trans (belowK_b (w := w) (Nat.le_refl _) w1 D _ _ hDw hK rfl rfl)
      cases neg
      · gi_wp2
        refine ⟨by simp, .inl ⟨_, _, rfl, run_takeDeferred hK, ?_⟩⟩
        exact ⟨_, results_tmp2 rfl _ _ _, by rw [hfin.out.1, hfin.out.2]; rfl, hbf⟩
      · gi_wp2
        refine ⟨by simp, .inl ⟨_, _, rfl, run_takeDeferred hK, ?_⟩⟩
        exact ⟨_, results_tmp2 rfl _ _ _, by rw [hfin.out.1, hfin.out.2]; rfl, hbf⟩
    · have hfin := hr2 hnd
      have t3 : decide (((Lib.decDigits a).length : Int) > 200) = true := decide_eq_true (by rw [hdl]; omega)
      clear hdl
      generalize Lib.decDigits a = s at *
      gi_wp2_with fail
      refine ⟨trivial, (callsIn_wide.2 hS).mono ?_⟩
      rintro _ w1 ⟨rfl, hb1, hk1⟩
      have hK := hKk w1 hk1
      have hb2 := hb.trans (hb1.mono (Nat.le_succ _))
      clear hS hKk c0 hk1 hb1 hb
      have hbf : Below w.heap.size w (w1.putObj D (.deferred none)) := hb2.trans (belowK_b (w := w) (Nat.le_refl _) w1 D _ _ hDw hK rfl rfl)
      gi_wp2
      refine ⟨by simp, .inl ⟨_, _, rfl, run_takeDeferred hK, ?_⟩⟩
      exact ⟨_, results_tmp2 rfl _ _ _, by rw [hfin.out.1, hfin.out.2]; rfl, hbf⟩
  case stop =>
    rintro D c pre W _ _ h _
    exact h.elim
/-- the integer of a sign and a size -/
def sgn (neg : Bool) (a : Nat) : Int := if neg then -(a : Int) else a
theorem sgn_abs (neg : Bool) (a : Nat) : (sgn neg a).natAbs = a := by cases neg <;> simp [sgn]
theorem text_any (neg : Bool) (a : Nat) (v : Value) (w : World) (h : NumAt w a v) (la : (Ig.grp a).length ≤ 50000) (hE : Env w) :
    Calls Tryz.prog 40 #[.agg #[.bool neg, v]] w fun e w' => e = .returned (.tuple #[.string ⟨(Ig.resS (sgn neg a)).toArray⟩, .int .i64 (Ig.resE (sgn neg a))]) ∧ Below w.heap.size w w' := by
  obtain ⟨A1, c1, rfl, hA1, hn1, hm1⟩ := h.out
  by_cases h0 : a = 0
  · subst h0
    have e1 : Ig.resS (sgn neg 0) = [48] := by cases neg <;> decide +kernel
    have e2 : Ig.resE (sgn neg 0) = 0 := by cases neg <;> decide +kernel
    have hl : (Ig.grp 0).length = 0 := by rw [Ig.grp_zero]; rfl
    rw [e1, e2, hl]
    exact text_zero neg A1 c1 w
  · refine text_pos neg a A1 c1 w hA1 hn1 h0 la hE _ _ (fun h => ⟨?_, ?_⟩) (fun h => ⟨?_, ?_⟩)
    · rw [Ig.resS, sgn_abs, if_pos h]
      cases neg
      · rw [Ig.itoa_nonneg (by simp [sgn]), sgn_abs]; rfl
      · rw [Ig.itoa_neg (by simp [sgn]; omega), sgn_abs]; rfl
    · rw [Ig.resE, sgn_abs, if_pos h]
    · rw [Ig.resS, sgn_abs, if_neg h]
    · rw [Ig.resE, sgn_abs, if_neg h]
end Go.Proofs.YtdjnkaeggnkgeaaGreatDoor
