/- Ratios of dialtoneref35: fractions that integers determine. Comparisons and made fractions, as the laws of dialtonelaw35 use them. -/
import Derived.Test.YtklelhkcbdajpaaGreatDoorQ16
import Derived.Test.YtklelhkcbdajpaaGreatDoorU03
namespace Tb
set_option linter.unusedVariables false
/-- the fraction of two integers -/
def rq (p : Int × Int) : Rat := Rat.divInt (Tp.pick p.1 (1 + Tp.pick p.2 60 + 1)) (1 + Tp.pick p.2 60)
def rqs (x : List (Int × Int)) (k : Nat) : List Rat := (x.take k).map rq
theorem rq_in (p : Int × Int) : 0 ≤ rq p ∧ rq p ≤ 1 ∧ Rq.Qz 2 2 (rq p) := by
  have h1 := Tp.pick_lt p.2 (show (0 : Int) < 60 by decide)
  have h2 := Tp.pick_lt p.1 (show 0 < 1 + Tp.pick p.2 60 + 1 by omega)
  have hd : 0 < 1 + Tp.pick p.2 60 := by omega
  refine ⟨?_, ?_, Rq.qz_divInt hd (by unfold Rq.Sz; omega) (by unfold Rq.Sz; omega)⟩
  · unfold rq; rw [Rat.divInt_nonneg_iff_of_pos_right hd]; exact h2.1
  · unfold rq
    rw [← Rat.divInt_self' (n := 1 + Tp.pick p.2 60) (by omega), rat_le hd]
    omega
theorem rqs_succ {x : List (Int × Int)} {k : Nat} (h : k < x.length) : rqs x (k + 1) = rqs x k ++ [rq x[k]] := by
  unfold rqs
  rw [List.take_add_one, List.getElem?_eq_getElem h, List.map_append]; rfl
theorem rqs_len {x : List (Int × Int)} {k : Nat} (h : k ≤ x.length) : (rqs x k).length = k := by
  unfold rqs; rw [List.length_map, List.length_take]; omega
theorem rqs_mem {x : List (Int × Int)} {k : Nat} {q : Rat} (h : q ∈ rqs x k) : 0 ≤ q ∧ q ≤ 1 ∧ Rq.Qz 2 2 q := by
  obtain ⟨p, -, rfl⟩ := List.mem_map.1 h
  exact rq_in p
/-- at most 8 of them -/
def ratios (x : List (Int × Int)) : List Rat := rqs x 8
theorem ratios_len (x : List (Int × Int)) : (ratios x).length ≤ 8 := by unfold ratios rqs; rw [List.length_map, List.length_take]; omega
theorem rqs_all {x : List (Int × Int)} {k : Nat} (h : k = x.length ∧ k ≤ 8 ∨ k = 8 ∧ k ≤ x.length) : ratios x = rqs x k := by
  unfold ratios rqs
  rcases h with ⟨rfl, h⟩ | ⟨rfl, h⟩
  · rw [List.take_of_length_le (Nat.le_refl _), List.take_of_length_le h]
  · rfl
end Tb
namespace Go.Proofs.YtklelhkcbdajpaaGreatDoor
set_option linter.unusedVariables false
set_option linter.unusedSimpArgs false
open Go.RowKit Go.Shelf
theorem ratI : ∃ i z, Tryz.prog.info? 33 = some i ∧ i.zero = some z ∧ i.size = 2 ∧ z.cells.size = 2 ∧ i.bytes = 32 := by
  have h : (Tryz.prog.info? 33).map (fun i => (i.size, i.bytes, i.zero.map (·.cells.size))) = some (2, 32, some 2) := by kernel_rfl
  cases hi : Tryz.prog.info? 33 with
  | none => rw [hi] at h; cases h
  | some i =>
    rw [hi] at h
    simp only [Option.map_some, Option.some.injEq, Prod.mk.injEq] at h
    obtain ⟨h1, h2, h3⟩ := h
    cases hz : i.zero with
    | none => rw [hz] at h3; cases h3
    | some z => rw [hz] at h3; exact ⟨i, z, rfl, hz, h1, by simpa using h3, h2⟩
def ratV (q : Rat) : List Value := ratC (txQ q)
theorem ratV_len (q : Rat) : (ratV q).length = 2 := rfl
theorem ratV_is {q : Rat} {a b : List UInt8} (h : LQ q a b) : ratV q = [.string ⟨a.toArray⟩, .string ⟨b.toArray⟩] := by
  unfold ratV ratC txQ; rw [h.out.1, h.out.2]
theorem at_ratV {w : World} {B : Nat} {A : Option Addr} {l : List Rat} (h : At 2 ratV w B A l) : At 2 ratC w B A (l.map txQ) := fun h0 => by
  rw [List.length_map] at h0
  obtain ⟨b, off, rfl, hb, hc⟩ := h h0
  refine ⟨b, off, rfl, hb, fun i c hi => ?_⟩
  rw [List.getElem?_map] at hi
  obtain ⟨q, hq, rfl⟩ := Option.map_eq_some_iff.1 hi
  exact hc i q hq
set_option maxRecDepth 100000 in
set_option maxHeartbeats 4000000 in
theorem rRatios_any (x : List (Int × Int)) (A : Option Addr) (cap : Nat) (w : World) (hA : At 2 y2C w w.heap.size A x) (hn : x.length ≤ cap) (hlen : x.length ≤ maxLen) (hx : ∀ y ∈ x, I64 y.1 ∧ I64 y.2) :
    Calls Tryz.prog 12 #[.slice A x.length cap] w fun e w' => (∃ C cc, e = .returned (.slice C (Tb.ratios x).length cc) ∧ Kp (At 2 ratV w' w'.heap.size C (Tb.ratios x) ∧ (Tb.ratios x).length ≤ cc)) ∧ Below w.heap.size w w' := by
  obtain ⟨i, z, hi, hzz, hs1, hz1, hby⟩ := ratI
  go_enter Tryz.func12, Tryz.ntmps12
  go_wp2
  go_loopw [3, 4] (fun s3 s4 wr => ∃ k : Nat, k ≤ x.length ∧ k ≤ 8 ∧ s4 = .int .i64 k ∧ RowZ 33 2 w.heap.size k ((Tb.rqs x k).flatMap ratV) s3 wr ∧ Below w.heap.size w wr) (fun _ s4 _ => 8 - (intOf s4).toNat)
  case atStart => exact ⟨0, Nat.zero_le _, Nat.zero_le _, rfl, .inl ⟨rfl, rfl, rfl⟩, bStart w⟩
  case round =>
    obtain ⟨k, hk, hk6, rfl, hrow, hb⟩ := hrel
    by_cases hlt : k < x.length
    · by_cases hl6 : k < 8
      · have t6 : decide ((k : Int) < 8) = true := by simp; omega
        obtain ⟨b9, off, rfl, hb9, hcell⟩ := hA (by omega)
        have hck := List.getElem?_eq_getElem hlt
        obtain ⟨hy1, hy2⟩ := hx _ (List.getElem_mem hlt)
        have g0 : wr.cell? ⟨b9, off + k * 2, none⟩ = some (.int .i64 x[k].1) := (hb.cell (p := ⟨b9, off + k * 2, none⟩) hb9).trans (hcell k _ hck 0 _ rfl)
        have g1 : wr.cell? ⟨b9, off + k * 2 + 1, none⟩ = some (.int .i64 x[k].2) := (hb.cell (p := ⟨b9, off + k * 2 + 1, none⟩) hb9).trans (hcell k _ hck 1 _ rfl)
        have hts := Kp.mk (Tb.rqs_succ hlt)
        have hrq : Kp (Rat.divInt (Tp.pick x[k].1 (1 + Tp.pick x[k].2 60 + 1)) (1 + Tp.pick x[k].2 60) = Tb.rq x[k]) := ⟨rfl⟩
        clear hcell hck hA
        generalize x[k] = y at *
        obtain ⟨ya, yb⟩ := y
        simp only at g0 g1 hy1 hy2 hrq
        have e1 := Tp.pick_lt yb (show (0 : Int) < 60 by decide)
        have p1 := fun w0 => rpick_any yb 60 (by decide) hy2 w0
        have p2 := fun w0 => rpick_any ya (1 + Tp.pick yb 60 + 1) (by omega) hy1 w0
        have e2 := Tp.pick_lt ya (show 0 < 1 + Tp.pick yb 60 + 1 by omega)
        generalize Tp.pick ya (1 + Tp.pick yb 60 + 1) = q2 at *
        generalize Tp.pick yb 60 = q1 at *
        generalize Tb.rq (ya, yb) = q at *
        obtain ⟨qa, qb, lq⟩ := LQ.ex q
        have hO := fun w0 => fOf_ok q2 (1 + q1) w0 ⟨by omega, by omega⟩ ⟨by omega, by omega⟩ (by omega)
        rw [hrq.out, lq.eq] at hO
        have hnx : Kp (Tb.rqs x (k + 1) = Tb.rqs x k ++ [q] ∧ ratV q = [.string ⟨qa.toArray⟩, .string ⟨qb.toArray⟩]) := ⟨hts.out, ratV_is lq⟩
        clear hts hrq lq hy1 hy2
        go_wp2_with fail
        refine (p1 _).mono ?_
        rintro _ _ ⟨rfl, rfl⟩
        go_wp2_with fail
        refine (p2 _).mono ?_
        rintro _ _ ⟨rfl, rfl⟩
        go_wp2_with fail
        refine (hO _).mono ?_
        rintro _ w1 ⟨rfl, hb1⟩
        clear hO p1 p2 g0 g1
        go_upto_region 7 with fail
        have B1 := Bx.mk w1 33 #[.string ⟨qa.toArray⟩, .string ⟨qb.toArray⟩]
        have hbn := bNew (bCall hb hb1) (.cells #[.string ⟨qa.toArray⟩, .string ⟨qb.toArray⟩] 33)
        have hrow1 := stab_rowZ _ _ _ _ _ _ _ _ (stab_rowZ _ _ _ _ _ _ _ _ hrow hb1) (bNewW w1 (.cells #[.string ⟨qa.toArray⟩, .string ⟨qb.toArray⟩] 33))
        have hlt1 := B1.lt
        generalize w1.alloc (.cells #[.string ⟨qa.toArray⟩, .string ⟨qb.toArray⟩] 33) = w2 at *
        generalize w1.heap.size = g1 at *
        have c0 := B1.cell 0 rfl
        have c1 := B1.cell 1 rfl
        have hsrc := RowC.src (P := Tryz.prog) (B := w2.heap.size) (cap := 1) (e := 33) (size := 2) (t := 26) (fun u hu => by simp at hu; rcases hu with rfl | rfl <;> rfl) Tryz.underlying26 (show RowC 33 2 w2.heap.size 1 1 [.string ⟨qa.toArray⟩, .string ⟨qb.toArray⟩] (.slice (some ⟨w2.heap.size, 0, none⟩) 1 1) (w2.alloc (.cells #[.string ⟨qa.toArray⟩, .string ⟨qb.toArray⟩] 33)) from ⟨w2.heap.size, _, rfl, Nat.le_refl _, Nat.le_refl _, Bx.mk _ _ _, rfl, rfl⟩)
        have hrow2 := stab_rowZ _ _ _ _ _ _ _ _ hrow1 (bNewW w2 (.cells #[.string ⟨qa.toArray⟩, .string ⟨qb.toArray⟩] 33))
        have hbm := bNew hbn (.cells #[.string ⟨qa.toArray⟩, .string ⟨qb.toArray⟩] 33)
        have hsz : w.heap.size ≤ (w2.alloc (.cells #[.string ⟨qa.toArray⟩, .string ⟨qb.toArray⟩] 33)).heap.size := hbm.size
        have fin : ∀ v' w', Below w.heap.size (w2.alloc (.cells #[.string ⟨qa.toArray⟩, .string ⟨qb.toArray⟩] 33)) w' → RowZ 33 2 w.heap.size (k + 1) ((Tb.rqs x k).flatMap ratV ++ [.string ⟨qa.toArray⟩, .string ⟨qb.toArray⟩]) v' w' → RowZ 33 2 w.heap.size (k + 1) ((Tb.rqs x (k + 1)).flatMap ratV) v' w' ∧ Below w.heap.size w w' := fun v' w' h1 h2 => by
          rw [hnx.out.1, List.flatMap_append, List.flatMap_singleton, hnx.out.2]
          exact ⟨h2, hbm.trans h1⟩
        go_wp2_with (at_builtin; refine wpList_append_rowZ rfl (.tmp 38) (.tmp 40) 26 33 rfl i z 2 w.heap.size k 1 ((Tb.rqs x k).flatMap ratV) [.string ⟨qa.toArray⟩, .string ⟨qb.toArray⟩] _ _ Tryz.underlying26 hi hzz hs1 hz1 rfl rfl hrow2 hsz hsrc (by omega) (by unfold maxLen; omega) (by rw [hby]; omega) ?_; intro v' w' e1 e2; obtain ⟨f1, f2⟩ := fin _ _ e1 e2)
        exact ⟨⟨k + 1, by omega, by omega, by go_num, f1, f2⟩, by simp [intOf]; omega⟩
      · have t6 : decide ((k : Int) < 8) = false := by simp; omega
        have hM : Kp (Tb.ratios x = Tb.rqs x k) := ⟨Tb.rqs_all (.inr ⟨by omega, hk⟩)⟩
        have hkl := Tb.rqs_len hk
        obtain ⟨C, cc, hs3, h1, h2, h3⟩ := RowZ.at (f := ratV) (p := Tb.rqs x k) ratV_len (by rw [hkl]; exact hrow)
        subst hs3
        go_wp2
        go_ret
        exact ⟨⟨C, cc, by rw [hM.out, hkl]; rfl, ⟨by rw [hM.out]; exact h1, by rw [hM.out]; exact h2⟩⟩, hb⟩
    · obtain rfl : k = x.length := by omega
      have hM : Kp (Tb.ratios x = Tb.rqs x x.length) := ⟨Tb.rqs_all (.inl ⟨rfl, hk6⟩)⟩
      have hkl := Tb.rqs_len hk
      obtain ⟨C, cc, hs3, h1, h2, h3⟩ := RowZ.at (f := ratV) (p := Tb.rqs x x.length) ratV_len (by rw [hkl]; exact hrow)
      subst hs3
      go_wp2
      go_ret
      exact ⟨⟨C, cc, by rw [hM.out, hkl]; rfl, ⟨by rw [hM.out]; exact h1, by rw [hM.out]; exact h2⟩⟩, hb⟩
end Go.Proofs.YtklelhkcbdajpaaGreatDoor
namespace Go.Proofs.YtklelhkcbdajpaaGreatDoor
set_option linter.unusedVariables false
set_option linter.unusedSimpArgs false
open Go.RowKit Go.Shelf
theorem SE.set {w0 w : World} (h : SE w0 w) (hE : Env w0) {p : Addr} (hp : w0.heap.size ≤ p.block) (u : Value) : SE w0 (w.setCell p u) := ⟨bSet h.bl hp u, hE.below (bSet h.bl hp u)⟩
theorem cmp_le {x y : Rat} {c : Int} (hc : Kp (Rq.cmpQ x y = c)) (h : x ≤ y) : decide (c > 0) = false := by
  rcases Rq.cmp_cases x y with ⟨e, _⟩ | ⟨e, _⟩ | ⟨e, h1⟩
  · rw [← hc.out, e]; rfl
  · rw [← hc.out, e]; rfl
  · exact absurd h (Rat.not_le.2 h1)
theorem cmp_gt' {x y : Rat} {c : Int} (hc : Kp (Rq.cmpQ x y = c)) (h : y < x) : decide (c > 0) = true := by
  rw [← hc.out, Rq.cmp_gt.2 h]; rfl
theorem Ratios_two (a b c d : Int) (A : Option Addr) (w : World) (hA : At 2 y2C w w.heap.size A [(a, b), (c, d)]) (ha : I64 a) (hb : I64 b) (hc : I64 c) (hd : I64 d) :
    Calls Tryz.prog 12 #[.slice A 2 2] w fun e w' => (∃ C cc, e = .returned (.slice C 2 cc) ∧ Kp (At 2 ratV w' w'.heap.size C [Tb.rq (a, b), Tb.rq (c, d)] ∧ 2 ≤ cc)) ∧ Below w.heap.size w w' :=
  (rRatios_any [(a, b), (c, d)] A 2 w hA (Nat.le_refl _) (by show 2 ≤ maxLen; decide) (fun y hy => by
    simp only [List.mem_cons, List.not_mem_nil, or_false] at hy
    rcases hy with rfl | rfl
    · exact ⟨ha, hb⟩
    · exact ⟨hc, hd⟩)).mono fun e w' h => h
/-- the cells of a slice of two fractions -/
theorem two_cellsR {w : World} {B : Nat} {C : Option Addr} {p q : Rat} {pa pb qa qb : List UInt8} (h : At 2 ratV w B C [p, q]) (lp : LQ p pa pb) (lq : LQ q qa qb) : ∃ b off, C = some ⟨b, off, none⟩ ∧ b < B ∧ w.cell? ⟨b, off, none⟩ = some (.string ⟨pa.toArray⟩) ∧ w.cell? ⟨b, off + 1, none⟩ = some (.string ⟨pb.toArray⟩) ∧ w.cell? ⟨b, off + 2, none⟩ = some (.string ⟨qa.toArray⟩) ∧ w.cell? ⟨b, off + 3, none⟩ = some (.string ⟨qb.toArray⟩) := by
  obtain ⟨b, off, rfl, hb, hc⟩ := h (Nat.succ_pos _)
  have e1 := ratV_is lp
  have e2 := ratV_is lq
  refine ⟨b, off, rfl, hb, ?_, ?_, ?_, ?_⟩
  · simpa using hc 0 p rfl 0 _ (by rw [e1]; rfl)
  · simpa using hc 0 p rfl 1 _ (by rw [e1]; rfl)
  · simpa using hc 1 q rfl 0 _ (by rw [e2]; rfl)
  · simpa using hc 1 q rfl 1 _ (by rw [e2]; rfl)
end Go.Proofs.YtklelhkcbdajpaaGreatDoor
