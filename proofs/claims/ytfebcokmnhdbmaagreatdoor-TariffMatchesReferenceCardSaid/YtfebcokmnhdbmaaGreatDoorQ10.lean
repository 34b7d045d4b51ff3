/- text of package integer. cmp.Compare[int], and compare of package integer. compare of package integer. over of package integer: the test of the digit's search. sort.Search with the test of over. one and Valid of package integer. The digits of a long division, written in any order of the indices. between two rounds of over. -/
import Derived.Test.YtfebcokmnhdbmaaGreatDoorQ09
import Derived.Laws.MakeOwn
namespace Go.Proofs.YtfebcokmnhdbmaaGreatDoor
set_option linter.unusedVariables false
set_option linter.unusedSimpArgs false
open Go.RowKit Go.Shelf
attribute [local go_sem] Oper.semAt_some
theorem own_call {B n : Nat} {v : Value} {bs : List Value} {w w' : World} (h : w.ownsRow B 5 1 v n bs) (hb : Below w.heap.size w w') : w'.ownsRow B 5 1 v n bs := by
  refine ⟨h.1, ?_⟩
  rcases h.2 with h1 | ⟨g, cap, cur, h1, h2, h3, h4⟩
  · exact .inl h1
  · exact .inr ⟨g, cap, cur, h1, h2, (hb.block g (Array.getElem?_eq_some_iff.1 h3).1).trans h3, h4⟩
theorem bat_call {B b : Nat} {p : Value} {bs : List Value} {w w' : World} (h : Lib.BuilderAt 138 5 B b p bs w) (hb : Below w.heap.size w w') : Lib.BuilderAt 138 5 B b p bs w' := by
  have hlt := h.lt
  obtain ⟨h1, v, h2, h3, h4⟩ := h
  exact ⟨h1, v, (hb.block b hlt).trans h2, own_call h3 hb, h4⟩
theorem bld_call {B b : Nat} {bs : List Value} {w w' : World} (h : Lib.IsBuilder 138 5 B b bs w) (hb : Below w.heap.size w w') : Lib.IsBuilder 138 5 B b bs w' :=
  h.elim (fun h => .inl (bat_call h hb)) (fun h => .inr (bat_call h hb))
theorem bld_lt {B b : Nat} {bs : List Value} {w : World} (h : Lib.IsBuilder 138 5 B b bs w) : b < w.heap.size := h.elim (fun h => h.lt) (fun h => h.lt)
theorem own_kept {B n : Nat} {v : Value} {bs : List Value} {W W' : World} {row : Option Nat} (h : W.ownsRow B 5 1 v n bs) (hg : W.grownBy W' row) (hr : ∀ r, row = some r → ∃ o : Obj, W.heap[r]? = some o ∧ o.isCells = false) : W'.ownsRow B 5 1 v n bs := by
  refine ⟨h.1, ?_⟩
  rcases h.2 with h1 | ⟨g, cap, cur, h1, h2, h3, h4⟩
  · exact .inl h1
  · exact .inr ⟨g, cap, cur, h1, h2, bx_kept (show Bx W g 5 cur from h3) hg hr, h4⟩
theorem bat_kept {B b : Nat} {p : Value} {bs : List Value} {W W' : World} {row : Option Nat} (h : Lib.BuilderAt 138 5 B b p bs W) (hg : W.grownBy W' row) (hr : ∀ r, row = some r → ∃ o : Obj, W.heap[r]? = some o ∧ o.isCells = false) : Lib.BuilderAt 138 5 B b p bs W' := by
  obtain ⟨h1, v, h2, h3, h4⟩ := h
  exact ⟨h1, v, bx_kept (show Bx W b 138 #[p, v] from h2) hg hr, own_kept h3 hg hr, h4⟩
theorem bld_kept {B b : Nat} {bs : List Value} {W W' : World} {row : Option Nat} (h : Lib.IsBuilder 138 5 B b bs W) (hg : W.grownBy W' row) (hr : ∀ r, row = some r → ∃ o : Obj, W.heap[r]? = some o ∧ o.isCells = false) : Lib.IsBuilder 138 5 B b bs W' :=
  h.elim (fun h => .inl (bat_kept h hg hr)) (fun h => .inr (bat_kept h hg hr))
theorem others_from {b : Nat} {W W' : World} (h : Lib.OthersKept 5 (some b) W W') (hs : W.heap.size ≤ W'.heap.size) {B : Nat} (hB : b < B) : KeepsFrom B W W' := ⟨hs, fun k o hk ho hc => h k o ho (by simp; omega) (fun c fz e => by rw [e] at hc; cases hc)⟩
theorem others_bx {b g : Nat} {t : TypeId} {cs : Array Value} {W W' : World} (h : Lib.OthersKept 5 (some b) W W') (hB : Bx W g t cs) (hg : g ≠ b) (ht : t ≠ 5) : Bx W' g t cs := h g _ hB (by simp; omega) (fun c fz e => by simp only [Obj.cells.injEq] at e; exact ht e.2.1)
def d_len (d : Nat) : Nat := (Lib.decDigits d).length
theorem rep_zero (k : Nat) : Lib.repeatL [48] k = List.replicate k 48 := by
  induction k with
  | zero => rfl
  | succ k ih => rw [List.replicate_succ, ← ih]; simp [Lib.repeatL, List.replicate_succ]
/-- between two rounds of text -/
structure TextI (w : World) (neg : Bool) (v : Value) (l : List Int) (pre : List (Fin l.length)) (W : World) : Prop where
  hb : Below w.heap.size w W
  le : w.heap.size + 3 ≤ W.heap.size
  B1 : Bx W w.heap.size 114 #[.bool neg, v]
  Bb : Lib.IsBuilder 138 5 (w.heap.size + 1) (w.heap.size + 1) (Lib.byteCells (txt l pre)) W
  B3 : Bx W (w.heap.size + 1 + 1) 112 #[v]
theorem TextI.kept {w W W' : World} {neg : Bool} {v : Value} {l : List Int} {pre : List (Fin l.length)} {row : Option Nat} (h : TextI w neg v l pre W) (hg : W.grownBy W' row) (hr : ∀ r, row = some r → w.heap.size ≤ r ∧ ∃ o : Obj, W.heap[r]? = some o ∧ o.isCells = false) : TextI w neg v l pre W' :=
  ⟨h.hb.grown hg h.hb.size (fun k e => (hr k e).1), Nat.le_trans h.le hg.size, bx_kept h.B1 hg (fun r e => (hr r e).2), bld_kept h.Bb hg (fun r e => (hr r e).2), bx_kept h.B3 hg (fun r e => (hr r e).2)⟩
set_option maxRecDepth 100000 in
set_option maxHeartbeats 4000000 in
theorem text_zero (neg : Bool) (A1 : Option Addr) (c1 : Nat) (w : World) :
    Calls Tryz.prog 89 #[.agg #[.bool neg, .slice A1 0 c1]] w fun e w' => e = .returned (.tuple #[.string ⟨#[48]⟩, .int .i64 0]) ∧ Below w.heap.size w w' := by
  have hb := bNewW w (.cells #[.bool neg, .slice A1 0 c1] 114)
  go_enter Tryz.func89, Tryz.ntmps89
  go_wp2
  go_ret2
  exact ⟨rfl, hb⟩
set_option maxRecDepth 100000 in
set_option maxHeartbeats 4000000 in
theorem text_pos (neg : Bool) (a : Nat) (A1 : Option Addr) (c1 : Nat) (w : World) (hA1 : At 1 intC w w.heap.size A1 (Ig.grp a)) (hn1 : (Ig.grp a).length ≤ c1) (h0 : a ≠ 0) (la : (Ig.grp a).length ≤ 50000) (hE : Env w) (r : List UInt8) (k : Int)
    (hr1 : Lib.nDigits a ≤ 200 → Kp (r = (if neg then 45 :: Lib.decDigits a else Lib.decDigits a) ∧ k = 0)) (hr2 : ¬ Lib.nDigits a ≤ 200 → Kp (r = [] ∧ k = 30)) :
    Calls Tryz.prog 89 #[.agg #[.bool neg, .slice A1 (Ig.grp a).length c1]] w fun e w' => e = .returned (.tuple #[.string ⟨r.toArray⟩, .int .i64 k]) ∧ Below w.heap.size w w' := by
  have hl0 : (Ig.grp a).length ≠ 0 := fun e => h0 (Ig.grp_eq_nil.1 e)
  have t0 : decide (((Ig.grp a).length : Int) = 0) = false := decide_eq_false (by omega)
  have t1 : (((Ig.grp a).length : Int) == 0) = false := beq_eq_false_iff_ne.2 (by omega)
  refine (callsIn_wide (n := 3)).1 ?_
  refine callsIn_of_wp_marks Tryz.func89 rfl trivial ?_ rfl
  simp only [Tryz.ntmps89, List.size_toArray, List.length_cons, List.length_nil, Nat.reduceAdd, Nat.reduceSub, Array.replicate_succ, Array.replicate_zero, List.push_toArray, List.append_toArray, List.nil_append, List.cons_append]
  gi_wp2_with (refine ⟨trivial, ?_⟩; gi_at_call 114; refine (back_in Fence.wide 2 trivial rfl _ _ _ _).mono ?_; rintro e w' ⟨rfl, rfl⟩)
  have hb0 := bNew (bNew (bNewW w (.cells #[.bool neg, .slice A1 (Ig.grp a).length c1] 114)) (.cells #[.pointer none, .slice none 0 0] 138)) (.cells #[.slice A1 (Ig.grp a).length c1] 112)
  have B1 := ((Bx.mk w 114 #[.bool neg, .slice A1 (Ig.grp a).length c1]).new (.cells #[.pointer none, .slice none 0 0] 138)).new (.cells #[.slice A1 (Ig.grp a).length c1] 112)
  have Bb := bld_call (Lib.fresh_isBuilder 138 5 (w.alloc (.cells #[.bool neg, .slice A1 (Ig.grp a).length c1] 114))) (bNewW _ (.cells #[.slice A1 (Ig.grp a).length c1] 112))
  have B7 := Bx.mk ((w.alloc (.cells #[.bool neg, .slice A1 (Ig.grp a).length c1] 114)).alloc (.cells #[.pointer none, .slice none 0 0] 138)) 112 #[.slice A1 (Ig.grp a).length c1]
  have hsz : (((w.alloc (.cells #[.bool neg, .slice A1 (Ig.grp a).length c1] 114)).alloc (.cells #[.pointer none, .slice none 0 0] 138)).alloc (.cells #[.slice A1 (Ig.grp a).length c1] 112)).heap.size = w.heap.size + 3 := by rw [alloc_size, alloc_size, alloc_size]
  rw [alloc_size] at Bb
  rw [alloc_size, alloc_size] at B7
  generalize (((w.alloc (.cells #[.bool neg, .slice A1 (Ig.grp a).length c1] 114)).alloc (.cells #[.pointer none, .slice none 0 0] 138)).alloc (.cells #[.slice A1 (Ig.grp a).length c1] 112)) = W0 at *
  refine wpIn_rangeFunc_ownG rfl (by decide) (gf := 146) (lb := #[.pointer (some ⟨w.heap.size + 1 + 1, 0, none⟩)]) rfl trivial (enters_of Tryz.func146 (by kernel_rfl) rfl)
    (back_stops Fence.wide 2 trivial rfl (by decide) (w.heap.size + 1 + 1) w.heap.size A1 c1 (Ig.grp a) (by omega) W0 (by omega) (by omega) (B7.cell 0 rfl) (hA1.below hb0)) KpB.trans (kpB_b (by omega) (by omega)) (Below.refl _ _) (fun _ => rfl)
    (fun pre W => TextI w neg (.slice A1 (Ig.grp a).length c1) (Ig.grp a) pre W) (fun _ _ _ => False)
    (fun pre W W' row hs hg hr => hs.kept hg (fun r e => ⟨by have := (hr r e).1; omega, (hr r e).2⟩))
    (fun _ _ _ _ _ hs _ _ => hs)
    ⟨hb0, by omega, B1, Bb, B7⟩
    (fun x => { tmps := #[.agg #[.bool neg, .slice A1 (Ig.grp a).length c1], .pointer (some ⟨w.heap.size, 0, none⟩), .string ⟨#[]⟩, .int .i64 0, .pointer (some ⟨w.heap.size + 1, 0, none⟩), .int .i64 (x.1 : Int), .int .i64 (Ig.grp a)[x.1], undef, undef, .pointer (some ⟨w.heap.size, 1, none⟩), .slice A1 (Ig.grp a).length c1, .int .i64 ((Ig.grp a).length : Int), .bool false, .pointer (some ⟨w.heap.size, 1, none⟩), .slice A1 (Ig.grp a).length c1,
      .func (.func 146) #[] #[.pointer (some ⟨w.heap.size + 1 + 1, 0, none⟩)], .int .i64 (x.1 : Int), .int .i64 (Ig.grp a)[x.1], undef, undef, undef, undef, undef, undef, undef, undef, undef, undef, undef, undef, undef, undef, undef, undef, undef, undef, undef, undef, undef, undef, undef, undef, undef], defers := [] }) ?assign ?body ?done ?stop
  case assign =>
    intro l x W K hK
    simp only [handed]
    gi_wp2
    exact hK
  case body =>
    rintro l pre x W ⟨hb, hle, B1, Bb, B3⟩ hlt
    have hgx := Ig.gr_grp a (Ig.grp a)[x.1] (List.getElem_mem x.2)
    obtain ⟨d, hd⟩ := Int.eq_ofNat_of_zero_le hgx.1
    have hd9 : d < 10000 := by omega
    have hsn := txt_snoc (Ig.grp a) pre x
    have htl := txt_len (Ig.gr_grp a) pre
    rw [hd, Int.toNat_natCast] at hsn
    have hit : Lib.itoa (d : Int) = Lib.decDigits d := by rw [Ig.itoa_nonneg (by omega), Int.natAbs_natCast]
    have hI := Itoa_any (d : Int) W (by omega) (by omega) (hE.below hb)
    rw [hit] at hI
    have hdl := Ig.dec_len d
    have hd4 := Ig.nd4 hd9
    simp only [hd]
    clear hgx hd hit
    have hc1 := fun w1 (hb1 : Below W.heap.size W w1) => (B1.call hb1).cell 1 rfl
    by_cases hx : x.1 + 1 < (Ig.grp a).length
    · have t2 : decide ((x.1 : Int) < ((Ig.grp a).length : Int) - 1) = true := by simp; omega
      have hR := fun w1 => Repeat_any [48] (4 - (d_len d : Int)) w1 (by unfold d_len; omega) (by unfold d_len; omega) (by decide)
      have hpad : Lib.repeatL [48] (4 - (d_len d : Int)).toNat ++ Lib.decDigits d = Ig.four d := by
        rw [← Ig.pad_four hd9, rep_zero]
        unfold d_len
        rw [hdl, show (4 - ((Lib.nDigits d : Nat) : Int)).toNat = 4 - Lib.nDigits d by omega]
      rw [if_pos hx, ← hpad] at hsn
      have hlr : (Lib.repeatL [48] (4 - (d_len d : Int)).toNat ++ Lib.decDigits d).length = 4 := by rw [hpad]; rfl
      have hs4 : (Lib.decDigits d).length ≤ 4 := by rw [hdl]; exact hd4
      clear hpad hdl hd4
      unfold d_len at hR hlr hsn
      generalize Lib.decDigits d = s at *
      gi_wp2_with fail
      refine ⟨trivial, ((callsIn_wide.2 hI).inRound _).mono ?_⟩
      rintro _ w1 ⟨rfl, hb1⟩
      have c1' := hc1 w1 hb1
      clear hc1 hI
      gi_wp2_with fail
      refine ⟨trivial, ((callsIn_wide.2 (hR _)).inRound _).mono ?_⟩
      rintro _ w2 ⟨rfl, hb2⟩
      have hb12 := bCall hb1 hb2
      have hW := WriteString_any (w.heap.size + 1) (w.heap.size + 1) _ (Lib.repeatL [48] (4 - (s.length : Int)).toNat ++ s) w2 (bld_call Bb hb12) (by rw [Lib.byteCells_length, hlr]; omega) (by have := hb12.size; omega)
      rw [← Lib.byteCells_append, ← hsn] at hW
      rw [List.length_append] at hlr
      clear hR hsn
      generalize Lib.repeatL [48] (4 - (s.length : Int)).toNat = s2 at *
      have hnl : ¬ 9223372036854775807 < s2.length + s.length := by omega
      clear hlr
      gi_wp2_with fail
      refine ⟨trivial, ((callsIn_wide.2 hW).inRound _).mono ?_⟩
      rintro _ w3 ⟨rfl, hb3, hb4, hk4⟩
      gi_wp2
      have hs3 := hb4.size
      have hB1 := (B1.call hb12).below hb4 (Nat.lt_succ_self _)
      have hB3 := others_bx hk4 (B3.call hb12) (by omega) (by decide)
      have hb5 := (bCall hb hb12).trans (hb4.mono (Nat.le_succ _))
      exact ⟨(keeps_below hb12 W0.heap.size).trans (others_from hk4 hs3 (by omega)), ⟨(hb12.mono (by omega)).trans (hb4.mono (Nat.le_succ _)), hB3.trans B3.symm⟩, hb5, Nat.le_trans hle (Nat.le_trans hb12.size hs3), hB1, .inr hb3, hB3⟩
    · have t2 : decide ((x.1 : Int) < ((Ig.grp a).length : Int) - 1) = false := by simp; omega
      rw [if_neg hx] at hsn
      have hs4 : (Lib.decDigits d).length ≤ 4 := by rw [hdl]; exact hd4
      clear hdl hd4
      generalize Lib.decDigits d = s at *
      gi_wp2_with fail
      refine ⟨trivial, ((callsIn_wide.2 hI).inRound _).mono ?_⟩
      rintro _ w2 ⟨rfl, hb12⟩
      have c1' := hc1 w2 hb12
      clear hc1 hI
      have hW := WriteString_any (w.heap.size + 1) (w.heap.size + 1) _ s w2 (bld_call Bb hb12) (by rw [Lib.byteCells_length]; omega) (by have := hb12.size; omega)
      rw [← Lib.byteCells_append, ← hsn] at hW
      gi_wp2_with fail
      refine ⟨trivial, ((callsIn_wide.2 hW).inRound _).mono ?_⟩
      rintro _ w3 ⟨rfl, hb3, hb4, hk4⟩
      gi_wp2
      have hs3 := hb4.size
      have hB1 := (B1.call hb12).below hb4 (Nat.lt_succ_self _)
      have hB3 := others_bx hk4 (B3.call hb12) (by omega) (by decide)
      have hb5 := (bCall hb hb12).trans (hb4.mono (Nat.le_succ _))
      exact ⟨(keeps_below hb12 W0.heap.size).trans (others_from hk4 hs3 (by omega)), ⟨(hb12.mono (by omega)).trans (hb4.mono (Nat.le_succ _)), hB3.trans B3.symm⟩, hb5, Nat.le_trans hle (Nat.le_trans hb12.size hs3), hB1, .inr hb3, hB3⟩
  case done =>
    rintro D ys W hD rfl ⟨hb, hle, B1, Bb, B3⟩ hK
    rw [txt_all h0] at Bb
    have hS := BString_any _ _ _ _ Bb (Ig.dec_ne a)
    have hdl := Ig.dec_len a
    have c0 := fun w1 (hb1 : Below (w.heap.size + 1) W w1) => (B1.below hb1 (Nat.lt_succ_self _)).cell 0 rfl
    have hKk : ∀ w1, Lib.OthersKept 5 (some (w.heap.size + 1)) W w1 → w1.heap[D]? = some (.deferred (some [])) := fun w1 h1 => h1 D _ hK (by simp; omega) (fun c fz e => by cases e)
    have hDw : w.heap.size ≤ D := by omega
    clear B1 Bb B3 hK hD
    by_cases hnd : Lib.nDigits a ≤ 200
    · have hfin := hr1 hnd
      have t3 : decide (((Lib.decDigits a).length : Int) > 200) = false := decide_eq_false (by rw [hdl]; omega)
      have hnl : ¬ 9223372036854775807 < (Lib.decDigits a).length := by rw [hdl]; omega
      have hnl2 : ¬ 9223372036854775807 < 1 + (Lib.decDigits a).length := by rw [hdl]; omega
      clear hdl
      generalize Lib.decDigits a = s at *
      gi_wp2_with fail
      refine ⟨trivial, (callsIn_wide.2 hS).mono ?_⟩
      rintro _ w1 ⟨rfl, hb1, hk1⟩
      have hK := hKk w1 hk1
      have c1' := c0 w1 hb1
      have hb2 := hb.trans (hb1.mono (Nat.le_succ _))
      clear hS hKk c0 hk1 hb1 hb
      have hg := grownBy_putObj' w1 D (.deferred none)
      have hbf : Below w.heap.size w (w1.putObj D (.deferred none)) := hb2.trans (belowK_b (w := w) (Nat.le_refl _) w1 D _ _ hDw hK rfl rfl)
      cases neg
      · gi_wp2
        refine ⟨by simp, .inl ⟨_, _, rfl, run_takeDeferred hK, ?_⟩⟩
        exact ⟨_, results_tmp2 rfl _ _ _, by rw [hfin.out.1, hfin.out.2]; rfl, hbf⟩
      · gi_wp2
        refine ⟨by simp, .inl ⟨_, _, rfl, run_takeDeferred hK, ?_⟩⟩
        exact ⟨_, results_tmp2 rfl _ _ _, by rw [hfin.out.1, hfin.out.2]; rfl, hbf⟩
    · have hfin := hr2 hnd
      have t3 : decide (((Lib.decDigits a).length : Int) > 200) = true := decide_eq_true (by rw [hdl]; omega)
      clear hdl
      generalize Lib.decDigits a = s at *
      gi_wp2_with fail
      refine ⟨trivial, (callsIn_wide.2 hS).mono ?_⟩
      rintro _ w1 ⟨rfl, hb1, hk1⟩
      have hK := hKk w1 hk1
      have hb2 := hb.trans (hb1.mono (Nat.le_succ _))
      clear hS hKk c0 hk1 hb1 hb
      have hbf : Below w.heap.size w (w1.putObj D (.deferred none)) := hb2.trans (belowK_b (w := w) (Nat.le_refl _) w1 D _ _ hDw hK rfl rfl)
      gi_wp2
      refine ⟨by simp, .inl ⟨_, _, rfl, run_takeDeferred hK, ?_⟩⟩
      exact ⟨_, results_tmp2 rfl _ _ _, by rw [hfin.out.1, hfin.out.2]; rfl, hbf⟩
  case stop =>
    rintro D c pre W _ _ h _
    exact h.elim
/-- the integer of a sign and a size -/
def sgn (neg : Bool) (a : Nat) : Int := if neg then -(a : Int) else a
theorem sgn_abs (neg : Bool) (a : Nat) : (sgn neg a).natAbs = a := by cases neg <;> simp [sgn]
theorem text_any (neg : Bool) (a : Nat) (v : Value) (w : World) (h : NumAt w a v) (la : (Ig.grp a).length ≤ 50000) (hE : Env w) :
    Calls Tryz.prog 89 #[.agg #[.bool neg, v]] w fun e w' => e = .returned (.tuple #[.string ⟨(Ig.resS (sgn neg a)).toArray⟩, .int .i64 (Ig.resE (sgn neg a))]) ∧ Below w.heap.size w w' := by
  obtain ⟨A1, c1, rfl, hA1, hn1, hm1⟩ := h.out
  by_cases h0 : a = 0
  · subst h0
    have e1 : Ig.resS (sgn neg 0) = [48] := by cases neg <;> decide +kernel
    have e2 : Ig.resE (sgn neg 0) = 0 := by cases neg <;> decide +kernel
    have hl : (Ig.grp 0).length = 0 := by rw [Ig.grp_zero]; rfl
    rw [e1, e2, hl]
    exact text_zero neg A1 c1 w
  · refine text_pos neg a A1 c1 w hA1 hn1 h0 la hE _ _ (fun h => ⟨?_, ?_⟩) (fun h => ⟨?_, ?_⟩)
    · rw [Ig.resS, sgn_abs, if_pos h]
      cases neg
      · rw [Ig.itoa_nonneg (by simp [sgn]), sgn_abs]; rfl
      · rw [Ig.itoa_neg (by simp [sgn]; omega), sgn_abs]; rfl
    · rw [Ig.resE, sgn_abs, if_pos h]
    · rw [Ig.resS, sgn_abs, if_neg h]
    · rw [Ig.resE, sgn_abs, if_neg h]
end Go.Proofs.YtfebcokmnhdbmaaGreatDoor
namespace Go.Proofs.YtfebcokmnhdbmaaGreatDoor
set_option linter.unusedVariables false
set_option linter.unusedSimpArgs false
open Go.RowKit Go.Shelf
/-- the answer of cmp.Compare on int -/
def cmpZ (a b : Int) : Int := if a < b then -1 else if a > b then 1 else 0
theorem isNaN_int (a : Int) (w : World) : Calls Tryz.prog 140 #[.int .i64 a] w fun e w' => e = .returned (.bool false) ∧ w = w' := by
  go_enter Tryz.func140, Tryz.ntmps140
  go_wp2
  go_ret
  exact ⟨by simp, rfl⟩
theorem cmp_any (a b : Int) (w : World) : Calls Tryz.prog 130 #[.int .i64 a, .int .i64 b] w fun e w' => e = .returned (.int .i64 (cmpZ a b)) ∧ w = w' := by
  rcases (show (a < b) ∨ (a = b) ∨ (b < a) by omega) with h | h | h
  · have t1 : decide (a < b) = true := by simp; omega
    have e : cmpZ a b = -1 := by unfold cmpZ; rw [if_pos h]
    go_enter Tryz.func130, Tryz.ntmps130
    go_wp2_with (go_at_call 140; refine (isNaN_int _ _).mono ?_; rintro e w' ⟨rfl, rfl⟩)
    go_ret
    exact ⟨by rw [e]; rfl, rfl⟩
  · subst h
    have e : cmpZ a a = 0 := by unfold cmpZ; rw [if_neg (by omega), if_neg (by omega)]
    go_enter Tryz.func130, Tryz.ntmps130
    go_wp2_with (go_at_call 140; refine (isNaN_int _ _).mono ?_; rintro e w' ⟨rfl, rfl⟩)
    go_ret
    exact ⟨by rw [e]; rfl, rfl⟩
  · have t1 : decide (a < b) = false := by simp; omega
    have t2 : decide (a > b) = true := by simp; omega
    have e : cmpZ a b = 1 := by unfold cmpZ; rw [if_neg (by omega), if_pos h]
    go_enter Tryz.func130, Tryz.ntmps130
    go_wp2_with (go_at_call 140; refine (isNaN_int _ _).mono ?_; rintro e w' ⟨rfl, rfl⟩)
    go_ret
    exact ⟨by rw [e]; rfl, rfl⟩
end Go.Proofs.YtfebcokmnhdbmaaGreatDoor
namespace Go.Proofs.YtfebcokmnhdbmaaGreatDoor
set_option linter.unusedVariables false
set_option linter.unusedSimpArgs false
open Go.RowKit Go.Shelf
attribute [local go_sem] Oper.semAt_some
theorem results_cell {fn : Func} {t : Tmp} {g : Nat} {x : Int} (h : fn.results = #[.cell t 3]) (tmps : Array Value) (w : World) (ht : tmps.getD t undef = .pointer (some ⟨g, 0, none⟩)) (hB : Bx w g 3 #[.int .i64 x]) :
    (results fn tmps).run Tryz.prog w = .ok (.int .i64 x) w := by
  have h0 := hB.cell 0 rfl
  have ht' : tmps[t]?.getD undef = .pointer (some ⟨g, 0, none⟩) := by simpa using ht
  simp only [results, h]
  simp [go_sem, ht', h0, loadVar]
theorem cmpZ_len {a b : Nat} (h : (Ig.grp a).length ≠ (Ig.grp b).length) : cmpZ ((Ig.grp a).length : Int) ((Ig.grp b).length : Int) = Ig.cmpI a b := by
  rw [Ig.cmp_len h]
  unfold cmpZ
  split
  · rw [if_pos (by omega)]
  · rw [if_pos (by omega), if_neg (by omega)]
theorem cmpZ_at {a b : Nat} (hlen : (Ig.grp a).length = (Ig.grp b).length) (k : Nat) (hk : k < (Ig.grp a).length) (hd : ∀ t, k < t → t < (Ig.grp a).length → Ig.atG (Ig.grp a) t = Ig.atG (Ig.grp b) t) (hne : Ig.atG (Ig.grp a) k ≠ Ig.atG (Ig.grp b) k) : cmpZ (Ig.atG (Ig.grp a) k) (Ig.atG (Ig.grp b) k) = Ig.cmpI a b := by
  have h1 : (Ig.grp a).drop (k + 1) = (Ig.grp b).drop (k + 1) := by
    apply List.ext_getElem (by simp [hlen])
    intro i h1 h2
    simp only [List.length_drop] at h1 h2
    have := hd (k + 1 + i) (by omega) (by omega)
    rw [Ig.atG_lt (by omega), Ig.atG_lt (by omega)] at this
    simpa using this
  rw [Ig.cmp_at hlen k hk h1 hne]
  unfold cmpZ
  split
  · rfl
  · rw [if_pos (by omega)]
theorem cmpI_all {a b : Nat} (hlen : (Ig.grp a).length = (Ig.grp b).length) (h : ∀ t, t < (Ig.grp a).length → Ig.atG (Ig.grp a) t = Ig.atG (Ig.grp b) t) : Ig.cmpI a b = 0 := by
  refine Ig.cmp_same (List.ext_getElem hlen fun i h1 h2 => ?_)
  have := h i h1
  rwa [Ig.atG_lt h1, Ig.atG_lt h2] at this
theorem mem_take_down {n k : Nat} (hk : k ≤ n) : ∀ t : Fin n, t ∈ (allDown n).take k ↔ n - k ≤ t.1 := by
  induction k with
  | zero => intro t; simp
  | succ k ih =>
    intro t
    have hs := down_succ (n := n) (t := n - (k + 1)) (by omega)
    rw [show n - (n - (k + 1)) = k + 1 by omega, show n - (n - (k + 1) + 1) = k by omega] at hs
    rw [hs, List.mem_append, ih (by omega), List.mem_singleton, Fin.ext_iff]
    simp only
    omega
set_option maxRecDepth 100000 in
set_option maxHeartbeats 4000000 in
theorem compare_ne (a b : Nat) (v1 v2 : Value) (w : World) (h1 : NumAt w a v1) (h2 : NumAt w b v2) (la : (Ig.grp a).length ≤ 90000) (lb : (Ig.grp b).length ≤ 90000) (hne : (Ig.grp a).length ≠ (Ig.grp b).length) :
    Calls Tryz.prog 98 #[v1, v2] w fun e w' => e = .returned (.int .i64 (Ig.cmpI a b)) ∧ Below w.heap.size w w' := by
  obtain ⟨A1, c1, rfl, hA1, hn1, hm1⟩ := h1.out
  obtain ⟨A2, c2, rfl, hA2, hn2, hm2⟩ := h2.out
  have he := cmpZ_len hne
  have hb0 := bNew (bNewW w (.cells #[.slice A2 (Ig.grp b).length c2] 112)) (.cells #[.int .i64 0] 3)
  generalize (Ig.grp a).length = n1 at *
  generalize (Ig.grp b).length = n2 at *
  have t0 : decide ((n1 : Int) = (n2 : Int)) = false := by simp; omega
  have t1 : ((n1 : Int) == (n2 : Int)) = false := by simp; omega
  go_enter Tryz.func98, Tryz.ntmps98
  go_wp2_with (go_at_call 130; refine (cmp_any _ _ _).mono ?_; rintro e w' ⟨rfl, rfl⟩)
  have B4 : Bx ((w.alloc (.cells #[.slice A2 n2 c2] 112)).alloc (.cells #[.int .i64 (Ig.cmpI a b)] 3)) (w.heap.size + 1) 3 #[.int .i64 (Ig.cmpI a b)] := by
    have := Bx.mk (w.alloc (.cells #[.slice A2 n2 c2] 112)) 3 #[.int .i64 (Ig.cmpI a b)]
    rwa [alloc_size] at this
  refine bodyPost_ret (results_cell rfl _ _ rfl B4) rfl ⟨rfl, bNew (bNewW w _) _⟩
/-- between two rounds of compare -/
structure CompI (w : World) (a b : Nat) (v2 : Value) (pre : List (Fin (Ig.grp a).length)) (W : World) : Prop where
  hb : Below w.heap.size w W
  le : w.heap.size + 3 ≤ W.heap.size
  B3 : Bx W w.heap.size 112 #[v2]
  B4 : Bx W (w.heap.size + 1) 3 #[.int .i64 0]
  same : ∀ t ∈ pre, Ig.atG (Ig.grp a) t.1 = Ig.atG (Ig.grp b) t.1
/-- the loop left at a group that differs -/
structure CompX (w : World) (a b : Nat) (pre : List (Fin (Ig.grp a).length)) (W : World) : Prop where
  hb : Below w.heap.size w W
  le : w.heap.size + 3 ≤ W.heap.size
  out : ∃ m x, pre = m ++ [x] ∧ (∀ t ∈ m, Ig.atG (Ig.grp a) t.1 = Ig.atG (Ig.grp b) t.1) ∧ Ig.atG (Ig.grp a) x.1 ≠ Ig.atG (Ig.grp b) x.1 ∧ Bx W (w.heap.size + 1) 3 #[.int .i64 (cmpZ (Ig.atG (Ig.grp a) x.1) (Ig.atG (Ig.grp b) x.1))]
theorem CompI.kept {w W W' : World} {a b : Nat} {v2 : Value} {pre : List (Fin (Ig.grp a).length)} {row : Option Nat} (h : CompI w a b v2 pre W) (hg : W.grownBy W' row) (hr : ∀ r, row = some r → w.heap.size ≤ r ∧ ∃ o : Obj, W.heap[r]? = some o ∧ o.isCells = false) : CompI w a b v2 pre W' :=
  ⟨h.hb.grown hg h.hb.size (fun k e => (hr k e).1), Nat.le_trans h.le hg.size, bx_kept h.B3 hg (fun r e => (hr r e).2), bx_kept h.B4 hg (fun r e => (hr r e).2), h.same⟩
theorem CompX.kept {w W W' : World} {a b : Nat} {pre : List (Fin (Ig.grp a).length)} {row : Option Nat} (h : CompX w a b pre W) (hg : W.grownBy W' row) (hr : ∀ r, row = some r → w.heap.size ≤ r ∧ ∃ o : Obj, W.heap[r]? = some o ∧ o.isCells = false) : CompX w a b pre W' := by
  obtain ⟨m, x, h1, h2, h3, h4⟩ := h.out
  exact ⟨h.hb.grown hg h.hb.size (fun k e => (hr k e).1), Nat.le_trans h.le hg.size, m, x, h1, h2, h3, bx_kept h4 hg (fun r e => (hr r e).2)⟩
theorem CompX.answer {w W : World} {a b k : Nat} (hlen : (Ig.grp a).length = (Ig.grp b).length) (hk : k ≤ (Ig.grp a).length) (h : CompX w a b ((allDown (Ig.grp a).length).take k) W) : Bx W (w.heap.size + 1) 3 #[.int .i64 (Ig.cmpI a b)] := by
  obtain ⟨m, x, h1, h2, h3, h4⟩ := h.out
  obtain ⟨j, rfl⟩ : ∃ j, k = j + 1 := ⟨k - 1, by rcases k with _ | k; · simp at h1
                                                 · rfl⟩
  have hs := down_succ (n := (Ig.grp a).length) (t := (Ig.grp a).length - (j + 1)) (by omega)
  rw [show (Ig.grp a).length - ((Ig.grp a).length - (j + 1)) = j + 1 by omega, show (Ig.grp a).length - ((Ig.grp a).length - (j + 1) + 1) = j by omega] at hs
  rw [hs] at h1
  have h5 := List.append_inj_left' h1 rfl
  have h6 : x.1 = (Ig.grp a).length - (j + 1) := by
    have := List.append_inj_right' h1 rfl
    simp only [List.cons.injEq, and_true] at this
    rw [← this]
  rw [cmpZ_at hlen x.1 x.2 (fun t h7 h8 => h2 ⟨t, h8⟩ (by rw [← h5, mem_take_down (by omega)]; simp only; omega)) h3] at h4
  exact h4
set_option maxRecDepth 100000 in
set_option maxHeartbeats 4000000 in
theorem compare_eq (a b : Nat) (v1 v2 : Value) (w : World) (h1 : NumAt w a v1) (h2 : NumAt w b v2) (la : (Ig.grp a).length ≤ 90000) (hl : (Ig.grp a).length = (Ig.grp b).length) :
    Calls Tryz.prog 98 #[v1, v2] w fun e w' => e = .returned (.int .i64 (Ig.cmpI a b)) ∧ Below w.heap.size w w' := by
  obtain ⟨A1, c1, rfl, hA1, hn1, hm1⟩ := h1.out
  obtain ⟨A2, c2, rfl, hA2, hn2, hm2⟩ := h2.out
  have t0 : decide (((Ig.grp a).length : Int) = ((Ig.grp b).length : Int)) = true := by simp; omega
  have t1 : (((Ig.grp a).length : Int) == ((Ig.grp b).length : Int)) = true := by simp; omega
  have t2 : (((Ig.grp a).length : Int) != ((Ig.grp b).length : Int)) = false := by simp; omega
  have hlk : Kp ((Ig.grp a).length = (Ig.grp b).length) := ⟨hl⟩
  clear hl
  refine (callsIn_wide (n := 3)).1 ?_
  refine callsIn_of_wp_marks Tryz.func98 rfl trivial ?_ rfl
  simp only [Tryz.ntmps98, List.size_toArray, List.length_cons, List.length_nil, Nat.reduceAdd, Nat.reduceSub, Array.replicate_succ, Array.replicate_zero, List.push_toArray, List.append_toArray, List.nil_append, List.cons_append]
  gi_wp2_with (refine ⟨trivial, ?_⟩; gi_at_call 114; refine (back_in Fence.wide 2 trivial rfl _ _ _ _).mono ?_; rintro e w' ⟨rfl, rfl⟩)
  have hb0 := bNew (bNew (bNewW w (.cells #[.slice A2 (Ig.grp b).length c2] 112)) (.cells #[.int .i64 0] 3)) (.cells #[.slice A1 (Ig.grp a).length c1] 112)
  have B3 := ((Bx.mk w 112 #[.slice A2 (Ig.grp b).length c2]).new (.cells #[.int .i64 0] 3)).new (.cells #[.slice A1 (Ig.grp a).length c1] 112)
  have B4 := (Bx.mk (w.alloc (.cells #[.slice A2 (Ig.grp b).length c2] 112)) 3 #[.int .i64 0]).new (.cells #[.slice A1 (Ig.grp a).length c1] 112)
  have B7 := Bx.mk ((w.alloc (.cells #[.slice A2 (Ig.grp b).length c2] 112)).alloc (.cells #[.int .i64 0] 3)) 112 #[.slice A1 (Ig.grp a).length c1]
  have hsz : (((w.alloc (.cells #[.slice A2 (Ig.grp b).length c2] 112)).alloc (.cells #[.int .i64 0] 3)).alloc (.cells #[.slice A1 (Ig.grp a).length c1] 112)).heap.size = w.heap.size + 3 := by rw [alloc_size, alloc_size, alloc_size]
  rw [alloc_size] at B4
  rw [alloc_size, alloc_size] at B7
  generalize (((w.alloc (.cells #[.slice A2 (Ig.grp b).length c2] 112)).alloc (.cells #[.int .i64 0] 3)).alloc (.cells #[.slice A1 (Ig.grp a).length c1] 112)) = W0 at *
  refine wpIn_rangeFunc_ownG rfl (by decide) (gf := 146) (lb := #[.pointer (some ⟨w.heap.size + 1 + 1, 0, none⟩)]) rfl trivial (enters_of Tryz.func146 (by kernel_rfl) rfl)
    (back_stops Fence.wide 2 trivial rfl (by decide) (w.heap.size + 1 + 1) w.heap.size A1 c1 (Ig.grp a) (by omega) W0 (by omega) (by omega) (B7.cell 0 rfl) (hA1.below hb0)) KpB.trans (kpB_b (by omega) (by omega)) (Below.refl _ _) (fun _ => rfl)
    (fun pre W => CompI w a b (.slice A2 (Ig.grp b).length c2) pre W) (fun c pre W => c = .ret ∧ CompX w a b pre W)
    (fun pre W W' row hs hg hr => hs.kept hg (fun r e => ⟨by have := (hr r e).1; omega, (hr r e).2⟩))
    (fun c pre W W' row hs hg hr => ⟨hs.1, hs.2.kept hg (fun r e => ⟨by have := (hr r e).1; omega, (hr r e).2⟩)⟩)
    ⟨hb0, by omega, B3, B4, fun t ht => by cases ht⟩
    (fun x => { tmps := #[.slice A1 (Ig.grp a).length c1, .slice A2 (Ig.grp b).length c2, undef, .pointer (some ⟨w.heap.size, 0, none⟩), .pointer (some ⟨w.heap.size + 1, 0, none⟩), .int .i64 (x.1 : Int), .int .i64 (Ig.grp a)[x.1], .slice A1 (Ig.grp a).length c1, .int .i64 ((Ig.grp a).length : Int), .slice A2 (Ig.grp b).length c2, .int .i64 ((Ig.grp b).length : Int), .bool false,
      undef, undef, undef, undef, undef, .slice A1 (Ig.grp a).length c1, .func (.func 146) #[] #[.pointer (some ⟨w.heap.size + 1 + 1, 0, none⟩)], .int .i64 (x.1 : Int), .int .i64 (Ig.grp a)[x.1], undef, undef, undef, undef, undef, undef, undef, undef, undef, undef, undef, undef], defers := [] }) ?assign ?body ?done ?stop
  case assign =>
    intro l x W K hK
    simp only [handed]
    gi_wp2
    exact hK
  case body =>
    rintro l pre x W ⟨hb, hle, B3', B4', hsame⟩ hlt
    have hxb : x.1 < (Ig.grp b).length := by have := x.2; have := hlk.out; omega
    have hA2' := hA2.below hb
    obtain ⟨b2, off, rfl, hbB, hcell⟩ := hA2' (by omega)
    have c0 : W.cell? ⟨b2, off + x.1, none⟩ = some (.int .i64 (Ig.grp b)[x.1]) := by
      have := hcell x.1 _ (List.getElem?_eq_getElem hxb) 0 _ rfl
      simpa using this
    have e1 : Ig.atG (Ig.grp a) x.1 = (Ig.grp a)[x.1] := Ig.atG_lt x.2
    have e2 : Ig.atG (Ig.grp b) x.1 = (Ig.grp b)[x.1] := Ig.atG_lt hxb
    have c3 := B3'.cell 0 rfl
    have c4 := B4'.cell 0 rfl
    have f4 := B4'.frozen 0
    have hxk : Kp (x.1 < (Ig.grp b).length) := ⟨hxb⟩
    by_cases heq : (Ig.grp a)[x.1] = (Ig.grp b)[x.1]
    · have t3 : decide ((Ig.grp a)[x.1] = (Ig.grp b)[x.1]) = true := by simp [heq]
      have hfin : CompI w a b (.slice (some ⟨b2, off, none⟩) (Ig.grp b).length c2) (pre ++ [x]) W := ⟨hb, hle, B3', B4', fun t ht => by
        rcases List.mem_append.1 ht with h | h
        · exact hsame t h
        · rw [List.mem_singleton.1 h, e1, e2, heq]⟩
      gi_wp2
      exact ⟨KeepsFrom.refl _ _, KpB.refl _ _ _, hfin⟩
    · have t3 : decide ((Ig.grp a)[x.1] = (Ig.grp b)[x.1]) = false := by simp [heq]
      gi_wp2_with (refine ⟨by first | trivial | (intro h; cases h), ?_⟩; gi_at_call 130; refine ((callsIn_wide.2 (cmp_any _ _ _)).inRound _).mono ?_; rintro e w' ⟨rfl, rfl⟩)
      exact ⟨(KeepsOthers.setCell _ _ _).from _, rfl, bSet hb (Nat.le_succ _) _, Nat.le_trans hle (KeepsOthers.setCell _ _ _).size, pre, x, rfl, hsame, by rw [e1, e2]; exact heq, by rw [e1, e2]; exact B4'.set 0 _⟩
  case done =>
    rintro D ys W hD rfl ⟨hb, hle, B3', B4', hsame⟩ hK
    have hz : Ig.cmpI a b = 0 := cmpI_all hlk.out (fun t ht => hsame ⟨t, ht⟩ (by simp [allDown]))
    have c4 := B4'.cell 0 rfl
    have f4 := B4'.frozen 0
    gi_wp2
    have hK2 := (Below.heap_setCell W ⟨w.heap.size + 1, 0, none⟩ (.int .i64 0) D (by show D ≠ w.heap.size + 1; omega)).trans hK
    have B42 := B4'.set 0 (.int .i64 0)
    have hb2 := bSet hb (p := ⟨w.heap.size + 1, 0, none⟩) (Nat.le_succ _) (.int .i64 0)
    generalize W.setCell ⟨w.heap.size + 1, 0, none⟩ (.int .i64 0) = W2 at *
    refine ⟨by simp, .inl ⟨_, _, rfl, run_takeDeferred hK2, ?_⟩⟩
    have hg := grownBy_putObj' W2 D (.deferred none)
    have hr : ∀ r, some D = some r → ∃ o : Obj, W2.heap[r]? = some o ∧ o.isCells = false := fun r e => by cases e; exact ⟨_, hK2, rfl⟩
    rw [hz]
    exact ⟨_, results_cell rfl _ _ rfl (bx_kept B42 hg hr), rfl, hb2.trans (belowK_b (w := w) (Nat.le_refl _) W2 D _ _ (by omega) hK2 rfl rfl)⟩
  case stop =>
    rintro D c pre W hD ⟨k, hk, rfl⟩ ⟨rfl, hX⟩ hK
    have hB := hX.answer hlk.out hk
    gi_wp2
    refine ⟨by simp, .inl ⟨_, _, rfl, run_takeDeferred hK, ?_⟩⟩
    have hg := grownBy_putObj' W D (.deferred none)
    have hr : ∀ r, some D = some r → ∃ o : Obj, W.heap[r]? = some o ∧ o.isCells = false := fun r e => by cases e; exact ⟨_, hK, rfl⟩
    exact ⟨_, results_cell rfl _ _ rfl (bx_kept hB hg hr), rfl, hX.hb.trans (belowK_b (w := w) (Nat.le_refl _) W D _ _ (by omega) hK rfl rfl)⟩
theorem compare_any (a b : Nat) (v1 v2 : Value) (w : World) (h1 : NumAt w a v1) (h2 : NumAt w b v2) (la : (Ig.grp a).length ≤ 90000) (lb : (Ig.grp b).length ≤ 90000) :
    Calls Tryz.prog 98 #[v1, v2] w fun e w' => e = .returned (.int .i64 (Ig.cmpI a b)) ∧ Below w.heap.size w w' := by
  by_cases hl : (Ig.grp a).length = (Ig.grp b).length
  · exact compare_eq a b v1 v2 w h1 h2 la hl
  · exact compare_ne a b v1 v2 w h1 h2 la lb hl
end Go.Proofs.YtfebcokmnhdbmaaGreatDoor
namespace Go.Proofs.YtfebcokmnhdbmaaGreatDoor
set_option linter.unusedVariables false
set_option linter.unusedSimpArgs false
open Go.RowKit Go.Shelf
theorem cmpI_pos (a b : Nat) : decide (Ig.cmpI a b > 0) = decide (b < a) := by
  rcases (show a < b ∨ a = b ∨ b < a by omega) with h | h | h
  · rw [Ig.cmpI_lt h]; simp; omega
  · subst h; rw [Ig.cmpI_eq]; simp
  · rw [Ig.cmpI_gt h]; simp; omega
set_option maxRecDepth 100000 in
set_option maxHeartbeats 4000000 in
theorem over1_any (b r d : Nat) (v2 v5 : Value) (g8 g5 : Nat) (w : World) (B8 : Bx w g8 152 #[.func (.func 123) #[v2] #[]]) (B5 : Bx w g5 112 #[v5]) (h2 : NumAt w b v2) (h5 : NumAt w r v5) (hd : d < 10000)
    (l2 : (Ig.grp b).length ≤ 20000) (l5 : (Ig.grp r).length ≤ 90000) (l3 : (Ig.grp (b * (d + 1))).length ≤ 90000) :
    Calls Tryz.prog 124 #[.int .i64 d, .pointer (some ⟨g8, 0, none⟩), .pointer (some ⟨g5, 0, none⟩)] w fun e w' => e = .returned (.bool (decide (r < b * (d + 1)))) ∧ Below w.heap.size w w' := by
  go_enter Tryz.func124, Tryz.ntmps124
  go_wp2_with fail
  have hay := fun w1 (hb1 : Below w.heap.size w w1) => (B8.call hb1).cell 0 rfl
  have hby := fun w1 (hb1 : Below w.heap.size w w1) => (B5.call hb1).cell 0 rfl
  have hcp := cmpI_pos (b * (d + 1)) r
  refine wp_region_rgl [Eqv (.func (.func 123) #[v2] #[]), Eqv (.int .i64 d), Eqv (.int .i64 ((d + 1 : Nat) : Int)), (fun v W => NumAt W (b * (d + 1)) v), Eqv v5, Eqv (.int .i64 (Ig.cmpI (b * (d + 1)) r)), Eqv (.bool (decide (r < b * (d + 1)))), Eqv (.bool (decide (r < b * (d + 1))))] 8 12 (by kernel_rfl) rfl rfl (by kernel_rfl) ?_ ?_ ?_
  · simp only [AllS]
    exact ⟨stab_eqv _, stab_eqv _, stab_eqv _, fun v w w' h hb => h.call hb, stab_eqv _, stab_eqv _, stab_eqv _, stab_eqv _, trivial⟩
  · simp only [Users, List.take, List.length]
    refine ⟨?_, ?_, ?_, ?_, ?_, ?_, ?_, ?_, trivial⟩
    all_goals (intro vs w1 hb1 hd0; have c8 := hay w1 hb1; have c5 := hby w1 hb1; have hN2 := h2.call hb1; have hN5 := h5.call hb1; clear hay hby; simp only [putD, Act.put, List.nil_append, List.cons_append, List.setIfInBounds_toArray, List.set_cons_succ, List.set_cons_zero, Nat.reduceAdd])
    · clear hd0; go_wp2; exact ⟨Below.refl _ _, rfl⟩
    · clear hd0; go_wp2; exact ⟨Below.refl _ _, rfl⟩
    · have e : vs 1 = .int .i64 d := hd0 1 rfl
      clear hd0; rw [e]; go_wp2; exact ⟨Below.refl _ _, rfl⟩
    · have e : vs 0 = .func (.func 123) #[v2] #[] := hd0 0 rfl; have e' : vs 2 = .int .i64 ((d + 1 : Nat) : Int) := hd0 2 rfl
      clear hd0
      rw [e, e']
      have hC := by_any b (d + 1) v2 w1 hN2 (by omega) (by omega)
      go_wp2_with fail
      refine hC.mono ?_
      clear hC
      rintro _ w9 ⟨v9, rfl, hn9, hb9⟩
      go_wp2
      exact hn9
    · clear hd0; go_wp2; exact ⟨Below.refl _ _, rfl⟩
    · have e : NumAt w1 (b * (d + 1)) (vs 3) := hd0 3 rfl; have e' : vs 4 = v5 := hd0 4 rfl
      clear hd0
      rw [e']
      have hC := compare_any (b * (d + 1)) r (vs 3) v5 w1 e hN5 (by omega) (by omega)
      go_wp2_with fail
      refine hC.mono ?_
      clear hC
      rintro _ w9 ⟨rfl, hb9⟩
      go_wp2
      rfl
    · have e : vs 5 = .int .i64 (Ig.cmpI (b * (d + 1)) r) := hd0 5 rfl
      clear hd0; rw [e]; go_wp2
      exact ⟨Below.refl _ _, rfl⟩
    · have e : vs 6 = .bool (decide (r < b * (d + 1))) := hd0 6 rfl
      clear hd0; rw [e]; go_wp2; exact ⟨Below.refl _ _, rfl⟩
  · intro vs wa hba hR
    simp only [AllR, Eqv] at hR
    obtain ⟨-, -, -, -, -, -, -, e7, -⟩ := hR
    simp only [List.drop, List.take, List.map, putD, Act.put, List.setIfInBounds_toArray, List.set_cons_succ, List.set_cons_zero, Nat.reduceAdd]
    rw [e7]
    go_wp2
    go_ret
    exact ⟨rfl, hba⟩
end Go.Proofs.YtfebcokmnhdbmaaGreatDoor
namespace Go.Proofs.YtfebcokmnhdbmaaGreatDoor
set_option linter.unusedVariables false
set_option linter.unusedSimpArgs false
open Go.RowKit Go.Shelf
def intN : Value → Nat
  | .int _ x => x.toNat
  | _ => 0
set_option maxRecDepth 100000 in
set_option maxHeartbeats 4000000 in
theorem search_any (q : Nat) (g8 g5 : Nat) (w : World) (hq : q ≤ 9999)
    (hf : ∀ (W : World) (d : Nat), Below w.heap.size w W → d < 9999 → Calls Tryz.prog 124 #[.int .i64 d, .pointer (some ⟨g8, 0, none⟩), .pointer (some ⟨g5, 0, none⟩)] W fun e w' => e = .returned (.bool (decide (q ≤ d))) ∧ Below W.heap.size W w') :
    Calls Tryz.prog 125 #[.int .i64 9999, .func (.func 124) #[] #[.pointer (some ⟨g8, 0, none⟩), .pointer (some ⟨g5, 0, none⟩)]] w fun e w' => e = .returned (.int .i64 q) ∧ Below w.heap.size w w' := by
  go_enter Tryz.func125, Tryz.ntmps125
  go_wp2
  go_loopw [5, 6, 7] (fun s5 s6 s7 wr => ∃ (i j : Nat), s5 = .int .i64 i ∧ s6 = .int .i64 j ∧ i ≤ q ∧ q ≤ j ∧ j ≤ 9999 ∧ Below w.heap.size w wr) (fun s5 s6 s7 wr => intN s6 - intN s5)
  case atStart => exact ⟨0, 9999, rfl, rfl, Nat.zero_le _, hq, Nat.le_refl _, Below.refl _ _⟩
  case round =>
    obtain ⟨i, j, rfl, rfl, hi, hj, hj9, hb⟩ := hrel
    by_cases h : i < j
    · have t0 : decide ((i : Int) < (j : Int)) = true := by simp; omega
      have hC := hf wr ((i + j) / 2) hb (by omega)
      have hm1 : i ≤ (i + j) / 2 := by omega
      have hm2 : (i + j) / 2 < j := by omega
      go_wp2_with fail
      have em : ((i : Int) + (j : Int)) / 2 = (((i + j) / 2 : Nat) : Int) := by omega
      simp only [em]
      generalize (i + j) / 2 = m at *
      clear em
      by_cases hqm : q ≤ m
      · have t1 : decide (q ≤ m) = true := by simp; omega
        rw [t1] at hC
        refine hC.mono ?_
        clear hC
        rintro _ w9 ⟨rfl, hb9⟩
        go_wp2
        exact ⟨⟨i, m, rfl, rfl, by omega, by omega, by omega, bCall hb hb9⟩, by simp only [intN]; omega⟩
      · have t1 : decide (q ≤ m) = false := by simp; omega
        rw [t1] at hC
        refine hC.mono ?_
        clear hC
        rintro _ w9 ⟨rfl, hb9⟩
        go_wp2
        exact ⟨⟨m + 1, j, by go_num, rfl, by omega, by omega, by omega, bCall hb hb9⟩, by simp only [intN]; omega⟩
    · have t0 : decide ((i : Int) < (j : Int)) = false := by simp; omega
      obtain rfl : i = q := by omega
      go_wp2
      go_ret
      exact ⟨rfl, hb⟩
end Go.Proofs.YtfebcokmnhdbmaaGreatDoor
namespace Go.Proofs.YtfebcokmnhdbmaaGreatDoor
set_option linter.unusedVariables false
set_option linter.unusedSimpArgs false
open Go.RowKit Go.Shelf
theorem grp_one : Ig.grp 1 = [1] := by
  rw [Ig.grp_pos (by decide), show 1 / 10000 = 0 from rfl, Ig.grp_zero]
  rfl
theorem one_any (w : World) : Calls Tryz.prog 96 #[] w fun e w' => ∃ v, e = .returned v ∧ NumAt w' 1 v ∧ Below w.heap.size w w' := by
  have hB := Bx.mk w 3 #[.int .i64 1]
  have hb := bNewW w (.cells #[.int .i64 1] 3)
  have hN : NumAt (w.alloc (.cells #[.int .i64 1] 3)) 1 (.slice (some ⟨w.heap.size, 0, none⟩) 1 1) := by
    refine ⟨some ⟨w.heap.size, 0, none⟩, 1, by rw [grp_one]; rfl, ?_, by rw [grp_one]; decide, by decide⟩
    rw [grp_one]
    intro _
    refine ⟨w.heap.size, 0, rfl, hB.lt, fun i c hi j u hj => ?_⟩
    obtain rfl : i = 0 := by rcases i with _ | i; · rfl
                             · simp at hi
    obtain rfl : c = 1 := by simpa using hi.symm
    obtain rfl : j = 0 := by rcases j with _ | j; · rfl
                             · simp [intC] at hj
    obtain rfl : u = .int .i64 1 := by simpa [intC] using hj.symm
    exact hB.cell 0 rfl
  go_enter Tryz.func96, Tryz.ntmps96
  go_wp2
  go_ret
  exact ⟨_, rfl, hN, hb⟩
theorem Valid_any (s : List UInt8) (hs : s.length ≤ 1000000) (w : World) :
    Calls Tryz.prog 92 #[.string ⟨s.toArray⟩] w fun e w' => e = .returned (.bool (Ig.validS s)) ∧ Below w.heap.size w w' := by
  have hV := isValid_any s hs w
  go_enter Tryz.func92, Tryz.ntmps92
  go_wp2_with fail
  refine hV.mono ?_
  rintro _ w9 ⟨rfl, hb9⟩
  clear hV
  go_wp2
  go_ret
  exact ⟨rfl, hb9⟩
end Go.Proofs.YtfebcokmnhdbmaaGreatDoor
namespace Go.Proofs.YtfebcokmnhdbmaaGreatDoor
set_option linter.unusedVariables false
/-- the digits after the indices pre, each written when its turn came -/
def dq (l : List Int) (b : Nat) (pre : List (Fin l.length)) : Nat → Nat :=
  (pre.foldl (fun (st : Nat × (Nat → Nat)) t => (st.1 * 10000 + l[t.1].toNat, fun k => if k = t.1 then (st.1 * 10000 + l[t.1].toNat) / b % 10000 else st.2 k)) (0, fun _ => 0)).2
theorem dq_fst (l : List Int) (b : Nat) (pre : List (Fin l.length)) : (pre.foldl (fun (st : Nat × (Nat → Nat)) t => (st.1 * 10000 + l[t.1].toNat, fun k => if k = t.1 then (st.1 * 10000 + l[t.1].toNat) / b % 10000 else st.2 k)) (0, fun _ => 0)).1 = hor l pre := by
  have : ∀ (n : Nat) (pre : List (Fin l.length)), pre.length = n → (pre.foldl (fun (st : Nat × (Nat → Nat)) t => (st.1 * 10000 + l[t.1].toNat, fun k => if k = t.1 then (st.1 * 10000 + l[t.1].toNat) / b % 10000 else st.2 k)) (0, fun _ => 0)).1 = hor l pre := by
    intro n
    induction n with
    | zero => intro pre h; rw [List.length_eq_zero_iff.1 h]; rfl
    | succ n ih =>
      intro pre h
      rcases List.eq_nil_or_concat pre with h0 | ⟨m, t, h0⟩
      · rw [h0]; rfl
      · obtain rfl : pre = m ++ [t] := by simpa using h0
        rw [hor_snoc, ← ih m (by simpa using h), List.foldl_append]
        rfl
  exact this _ _ rfl
theorem dq_nil (l : List Int) (b k : Nat) : dq l b [] k = 0 := rfl
theorem dq_snoc (l : List Int) (b : Nat) (pre : List (Fin l.length)) (t : Fin l.length) (k : Nat) : dq l b (pre ++ [t]) k = if k = t.1 then hor l (pre ++ [t]) / b % 10000 else dq l b pre k := by
  rw [hor_snoc, ← dq_fst l b pre]
  unfold dq
  rw [List.foldl_append]
  rfl
theorem dq_take {l : List Int} (hl : Ig.Gr l) (b : Nat) : ∀ k, k ≤ l.length → ∀ t, l.length - k ≤ t → t < l.length → dq l b ((allDown l.length).take k) t = (Ig.from_ l t).toNat / b % 10000
  | 0, _, t, h1, h2 => by omega
  | k + 1, hk, t, h1, h2 => by
    have hs := down_succ (n := l.length) (t := l.length - (k + 1)) (by omega)
    rw [show l.length - (l.length - (k + 1)) = k + 1 by omega, show l.length - (l.length - (k + 1) + 1) = k by omega] at hs
    rw [hs, dq_snoc, ← hs]
    by_cases h : t = l.length - (k + 1)
    · rw [if_pos (by simpa using h), h, ← hor_take l hl (k + 1) hk, Int.toNat_natCast]
    · rw [if_neg (by simpa using h)]
      exact dq_take hl b k (by omega) t (by omega) h2
/-- the digits of the quotient -/
theorem dq_gval {l : List Int} (hl : Ig.Gr l) {b : Nat} (hb : 0 < b) : ∀ k, k ≤ l.length → Ig.gval (((List.range l.length).map fun t => ((dq l b (allDown l.length) t : Nat) : Int)).drop (l.length - k)) = (((Ig.from_ l (l.length - k)).toNat / b : Nat) : Int)
  | 0, _ => by
    rw [Nat.sub_zero, Ig.from_end (Nat.le_refl _), List.drop_eq_nil_of_le (by simp)]
    simp [Ig.gval]
  | k + 1, hk => by
    have ih := dq_gval hl hb k (by omega)
    have ht : l.length - (k + 1) < l.length := by omega
    have hd := dq_take hl b l.length (Nat.le_refl _) (l.length - (k + 1)) (by omega) ht
    rw [List.take_of_length_le (by rw [allDown_len]; omega)] at hd
    rw [List.drop_eq_getElem_cons (by simp; omega), show l.length - (k + 1) + 1 = l.length - k by omega]
    simp only [List.getElem_map, List.getElem_range]
    rw [hd]
    show _ + 10000 * Ig.gval _ = _
    rw [ih]
    have h1 := Ig.from_step ht
    rw [show l.length - (k + 1) + 1 = l.length - k by omega] at h1
    have h2 := Ig.from_nonneg hl (l.length - k)
    have h3 := hl l[l.length - (k + 1)] (List.getElem_mem ht)
    generalize Ig.from_ l (l.length - k) = F at *
    generalize Ig.from_ l (l.length - (k + 1)) = G at *
    generalize l[l.length - (k + 1)] = g at *
    obtain ⟨F, rfl⟩ := Int.eq_ofNat_of_zero_le h2
    obtain ⟨g, rfl⟩ := Int.eq_ofNat_of_zero_le h3.1
    obtain rfl : G = ((g + 10000 * F : Nat) : Int) := by omega
    rw [Int.toNat_natCast]
    have h4 : (g + 10000 * F) / b / 10000 = F / b := by
      rw [Nat.div_div_eq_div_mul, Nat.mul_comm b 10000, ← Nat.div_div_eq_div_mul]
      congr 1
      omega
    have h5 : (Int.toNat (Int.ofNat F)) = F := rfl
    have h6 := Nat.mod_add_div ((g + 10000 * F) / b) 10000
    rw [h4] at h6
    first | (rw [h5]; omega) | (simp only [Int.toNat_natCast]; omega)
end Go.Proofs.YtfebcokmnhdbmaaGreatDoor
namespace Go.Proofs.YtfebcokmnhdbmaaGreatDoor
set_option linter.unusedVariables false
open Go.RowKit Go.Shelf
/-- the digits' cells -/
def qCells (l : List Int) (b : Nat) (pre : List (Fin l.length)) : Array Value := ((List.range l.length).map fun t => Value.int .i64 ((dq l b pre t : Nat) : Int)).toArray
theorem qCells_set (l : List Int) (b : Nat) (pre : List (Fin l.length)) (x : Fin l.length) : (qCells l b pre).setIfInBounds x.1 (.int .i64 ((hor l (pre ++ [x]) / b % 10000 : Nat) : Int)) = qCells l b (pre ++ [x]) := by
  have h : ((List.range l.length).map fun t => Value.int .i64 ((dq l b pre t : Nat) : Int)).set x.1 (.int .i64 ((hor l (pre ++ [x]) / b % 10000 : Nat) : Int)) = (List.range l.length).map fun t => Value.int .i64 ((dq l b (pre ++ [x]) t : Nat) : Int) := by
    apply List.ext_getElem (by simp)
    intro i h1 h2
    rw [List.getElem_set, List.getElem_map, List.getElem_map, List.getElem_range, dq_snoc]
    by_cases h : x.1 = i
    · rw [if_pos h, if_pos h.symm]
    · rw [if_neg h, if_neg (fun e => h e.symm)]
  unfold qCells
  rw [List.setIfInBounds_toArray, h]
theorem qCells_nil (l : List Int) (b : Nat) : madeCells #[.int .i64 0] l.length = qCells l b [] := by
  apply Array.ext (by simp [madeCells, qCells])
  intro i h1 h2
  simp [madeCells, qCells, dq_nil, Nat.mod_one]
structure OverI (w : World) (a b : Nat) (v2 : Value) (pre : List (Fin (Ig.grp a).length)) (W : World) : Prop where
  hb : Below w.heap.size w W
  le : w.heap.size + 5 ≤ W.heap.size
  B3 : Bx W w.heap.size 112 #[v2]
  Bq : Bx W (w.heap.size + 1) 112 #[.slice (some ⟨w.heap.size + 1 + 1 + 1, 0, none⟩) (Ig.grp a).length (Ig.grp a).length]
  Br : ∃ v, Bx W (w.heap.size + 1 + 1) 112 #[v] ∧ NumAt W (hor (Ig.grp a) pre % b) v
  Bc : Bx W (w.heap.size + 1 + 1 + 1) 3 (qCells (Ig.grp a) b pre)
theorem OverI.kept {w W W' : World} {a b : Nat} {v2 : Value} {pre : List (Fin (Ig.grp a).length)} {row : Option Nat} (h : OverI w a b v2 pre W) (hg : W.grownBy W' row) (hr : ∀ r, row = some r → w.heap.size ≤ r ∧ ∃ o : Obj, W.heap[r]? = some o ∧ o.isCells = false) : OverI w a b v2 pre W' := by
  obtain ⟨v, h1, h2⟩ := h.Br
  exact ⟨h.hb.grown hg h.hb.size (fun k e => (hr k e).1), Nat.le_trans h.le hg.size, bx_kept h.B3 hg (fun r e => (hr r e).2), bx_kept h.Bq hg (fun r e => (hr r e).2), ⟨v, bx_kept h1 hg (fun r e => (hr r e).2), num_kept h2 hg (fun r e => (hr r e).2)⟩, bx_kept h.Bc hg (fun r e => (hr r e).2)⟩
end Go.Proofs.YtfebcokmnhdbmaaGreatDoor
