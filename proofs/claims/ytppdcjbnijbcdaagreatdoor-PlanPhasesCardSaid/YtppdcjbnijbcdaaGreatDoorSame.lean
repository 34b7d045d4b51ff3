/- Same of package plan; reads, kind and example of package dialtonelaw12. -/
import Derived.Test.YtppdcjbnijbcdaaGreatDoorRead2
namespace Go.Proofs.YtppdcjbnijbcdaaGreatDoor
set_option linter.unusedVariables false
set_option linter.unusedSimpArgs false
open Go.RowKit
theorem read_any (p : List Pl.Cd) (A : Option Addr) (cap : Nat) (s : List UInt8) (ph : Int) (w : World) (hA : At 3 codeC w w.heap.size A p) (hn : p.length ≤ cap) (hl : p.length ≤ 1000) (hs : ∀ c ∈ p, c.old.length ≤ 1000 ∧ c.new.length ≤ 1000) (hsl : s.length ≤ 1000) :
    Calls Tryz.prog 21 #[.slice A p.length cap, .string ⟨s.toArray⟩, .int .i64 ph] w fun e w' => e = .returned (readV (Pl.read p s ph)) ∧ Below w.heap.size w w' := by
  cases h1 : Pl.valid p with
  | false => exact read_bad p A cap s ph w hA hn hl hs hsl (.inl h1)
  | true =>
    cases h2 : Pl.digits s with
    | false => exact read_bad p A cap s ph w hA hn hl hs hsl (.inr (.inl ⟨h1, h2⟩))
    | true =>
      by_cases h3 : s.length ≤ 16
      · cases h4 : Pl.isPhase ph with
        | false => exact read_bad p A cap s ph w hA hn hl hs hsl (.inr (.inr (.inr ⟨h1, h2, h3, h4⟩)))
        | true => exact read_good p A cap s ph w hA hn hl hs h1 h2 h3 h4
      · exact read_bad p A cap s ph w hA hn hl hs hsl (.inr (.inr (.inl ⟨h1, h2, by omega⟩)))
set_option maxRecDepth 100000 in
set_option maxHeartbeats 2000000 in
theorem sameIn_any (p : List Pl.Cd) (A : Option Addr) (cap : Nat) (s : List UInt8) (g : Nat) (w : World) (hA : At 3 codeC w w.heap.size A p) (hB : Bx w g 24 #[.slice A p.length cap]) (hn : p.length ≤ cap) (hl : p.length ≤ 1000) (hs : ∀ c ∈ p, c.old.length ≤ 1000 ∧ c.new.length ≤ 1000) (hsl : s.length ≤ 1000) :
    Calls Tryz.prog 53 #[.string ⟨s.toArray⟩, .pointer (some ⟨g, 0, none⟩)] w fun e w' => e = .returned (.tuple #[.int .i64 (Pl.reads p s).1, .bool (Pl.reads p s).2]) ∧ Below w.heap.size w w' := by
  have c0 := hB.cell 0 rfl
  have hR := fun w0 (h0 : At 3 codeC w0 w0.heap.size A p) => read_any p A cap s 2 w0 h0 hn hl hs hsl
  have hrd : Kp (Pl.reads p s = ((Pl.read p s 2).1.number, (Pl.read p s 2).2 == 0 && (Pl.read p s 2).1.kind == 2 && (Pl.read p s 2).1.used == s.length)) := ⟨rfl⟩
  generalize Pl.read p s 2 = r at *
  obtain ⟨⟨k, n, c, u⟩, e⟩ := r
  simp only [readV] at hR
  simp only at hrd
  rcases (show e ≠ 0 ∨ (e = 0 ∧ k ≠ 2) ∨ (e = 0 ∧ k = 2 ∧ u ≠ s.length) ∨ (e = 0 ∧ k = 2 ∧ u = s.length) by omega) with he | ⟨rfl, hk⟩ | ⟨rfl, rfl, hu⟩ | ⟨rfl, rfl, rfl⟩
  · have hfin : Kp (Pl.reads p s = (n, false)) := ⟨by rw [hrd.out]; simp [he]⟩
    have t1 : (e == 0) = false := by simp [he]
    clear hs hrd
    go_enter Tryz.func53, Tryz.ntmps53
    go_wp2_with (go_at_call 21; refine (hR _ (by assumption)).mono ?_; rintro e w1 ⟨rfl, hb1⟩)
    have B1 := (Bx.mk w1 44 #[.int .i64 k, .int .i64 n, .int .i64 c, .int .i64 u])
    have b1 := bNew hb1 (.cells #[.int .i64 k, .int .i64 n, .int .i64 c, .int .i64 u] 44)
    have g0 := fun d os => (B1.again d os).cell 0 rfl
    have g1 := fun d os => (B1.again d os).cell 1 rfl
    have g3 := fun d os => (B1.again d os).cell 3 rfl
    clear hR hb1 hA hB c0
    refine wp_region_quiet_below (by kernel_rfl) (by kernel_rfl) ?_
    repeat (go_big_quiet_step (fail))
    refine wpQuiet_nil ?_
    rintro _ ⟨q, rfl⟩
    go_wp2
    go_ret2
    exact ⟨by rw [hfin.out]; rfl, bAgain b1 q.d q.os⟩
  · have hfin : Kp (Pl.reads p s = (n, false)) := ⟨by rw [hrd.out]; simp [hk]⟩
    have t1 : (k == 2) = false := by simp [hk]
    clear hs hrd
    go_enter Tryz.func53, Tryz.ntmps53
    go_wp2_with (go_at_call 21; refine (hR _ (by assumption)).mono ?_; rintro e w1 ⟨rfl, hb1⟩)
    have B1 := (Bx.mk w1 44 #[.int .i64 k, .int .i64 n, .int .i64 c, .int .i64 u])
    have b1 := bNew hb1 (.cells #[.int .i64 k, .int .i64 n, .int .i64 c, .int .i64 u] 44)
    have g0 := fun d os => (B1.again d os).cell 0 rfl
    have g1 := fun d os => (B1.again d os).cell 1 rfl
    have g3 := fun d os => (B1.again d os).cell 3 rfl
    clear hR hb1 hA hB c0
    refine wp_region_quiet_below (by kernel_rfl) (by kernel_rfl) ?_
    repeat (go_big_quiet_step (fail))
    refine wpQuiet_nil ?_
    rintro _ ⟨q, rfl⟩
    go_wp2
    go_ret2
    exact ⟨by rw [hfin.out]; rfl, bAgain b1 q.d q.os⟩
  · have hfin : Kp (Pl.reads p s = (n, false)) := ⟨by rw [hrd.out]; simp [hu]⟩
    have t1 : (u == (s.length : Int)) = false := by simp [hu]
    clear hs hrd
    go_enter Tryz.func53, Tryz.ntmps53
    go_wp2_with (go_at_call 21; refine (hR _ (by assumption)).mono ?_; rintro e w1 ⟨rfl, hb1⟩)
    have B1 := (Bx.mk w1 44 #[.int .i64 2, .int .i64 n, .int .i64 c, .int .i64 u])
    have b1 := bNew hb1 (.cells #[.int .i64 2, .int .i64 n, .int .i64 c, .int .i64 u] 44)
    have g0 := fun d os => (B1.again d os).cell 0 rfl
    have g1 := fun d os => (B1.again d os).cell 1 rfl
    have g3 := fun d os => (B1.again d os).cell 3 rfl
    clear hR hb1 hA hB c0
    refine wp_region_quiet_below (by kernel_rfl) (by kernel_rfl) ?_
    repeat (go_big_quiet_step (fail))
    refine wpQuiet_nil ?_
    rintro _ ⟨q, rfl⟩
    go_wp2
    go_ret2
    exact ⟨by rw [hfin.out]; rfl, bAgain b1 q.d q.os⟩
  · have hfin : Kp (Pl.reads p s = (n, true)) := ⟨by rw [hrd.out]; simp⟩
    clear hs hrd
    go_enter Tryz.func53, Tryz.ntmps53
    go_wp2_with (go_at_call 21; refine (hR _ (by assumption)).mono ?_; rintro e w1 ⟨rfl, hb1⟩)
    have B1 := (Bx.mk w1 44 #[.int .i64 2, .int .i64 n, .int .i64 c, .int .i64 s.length])
    have b1 := bNew hb1 (.cells #[.int .i64 2, .int .i64 n, .int .i64 c, .int .i64 s.length] 44)
    have g0 := fun d os => (B1.again d os).cell 0 rfl
    have g1 := fun d os => (B1.again d os).cell 1 rfl
    have g3 := fun d os => (B1.again d os).cell 3 rfl
    clear hR hb1 hA hB c0
    refine wp_region_quiet_below (by kernel_rfl) (by kernel_rfl) ?_
    repeat (go_big_quiet_step (fail))
    refine wpQuiet_nil ?_
    rintro _ ⟨q, rfl⟩
    go_wp2
    go_ret2
    exact ⟨by rw [hfin.out]; rfl, bAgain b1 q.d q.os⟩
set_option maxRecDepth 100000 in
set_option maxHeartbeats 2000000 in
theorem same_any (p : List Pl.Cd) (A : Option Addr) (cap : Nat) (s t : List UInt8) (w : World) (hA : At 3 codeC w w.heap.size A p) (hn : p.length ≤ cap) (hl : p.length ≤ 1000) (hs : ∀ c ∈ p, c.old.length ≤ 1000 ∧ c.new.length ≤ 1000) (hsl : s.length ≤ 1000) (htl : t.length ≤ 1000) :
    Calls Tryz.prog 23 #[.slice A p.length cap, .string ⟨s.toArray⟩, .string ⟨t.toArray⟩] w fun e w' => e = .returned (.bool (Pl.same p s t)) ∧ Below w.heap.size w w' := by
  have hA1 := (hA.below ((Below.refl w.heap.size w).alloc (Nat.le_refl _) (.cells #[.slice A p.length cap] 24))).more (show w.heap.size ≤ (w.alloc (.cells #[.slice A p.length cap] 24)).heap.size by rw [alloc_size]; omega)
  have B1 := Bx.mk w 24 #[.slice A p.length cap]
  have b1 := bNew (bStart w) (.cells #[.slice A p.length cap] 24)
  have hC := fun w0 (h0 : At 3 codeC w0 w0.heap.size A p) (h1 : Bx w0 w.heap.size 24 #[.slice A p.length cap]) => sameIn_any p A cap s w.heap.size w0 h0 h1 hn hl hs hsl
  have hD := fun w0 (h0 : At 3 codeC w0 w0.heap.size A p) (h1 : Bx w0 w.heap.size 24 #[.slice A p.length cap]) => sameIn_any p A cap t w.heap.size w0 h0 h1 hn hl hs htl
  have hsm : Kp (Pl.same p s t = ((Pl.reads p s).2 && (Pl.reads p t).2 && (Pl.reads p s).1 == (Pl.reads p t).1)) := ⟨rfl⟩
  generalize Pl.reads p s = r at *
  generalize Pl.reads p t = q at *
  obtain ⟨m, x⟩ := r
  obtain ⟨n, y⟩ := q
  simp only at hC hD hsm
  clear hA hs
  rcases (show x = false ∨ (x = true ∧ y = false) ∨ (x = true ∧ y = true ∧ m = n) ∨ (x = true ∧ y = true ∧ m ≠ n) by cases x <;> cases y <;> simp <;> omega) with rfl | ⟨rfl, rfl⟩ | ⟨rfl, rfl, rfl⟩ | ⟨rfl, rfl, hm⟩
  · have hsm : Kp (Pl.same p s t = false) := ⟨by rw [hsm.out]; simp⟩
    go_enter Tryz.func23, Tryz.ntmps23
    go_wp2_with (go_at_call 53; first
      | (refine (hC _ (by assumption) (by assumption)).mono ?_; rintro e w1 ⟨rfl, hb1⟩; have hA2 := (hA1.below hb1).more hb1.size; have B2 := B1.call hb1; clear hC)
      | (refine (hD _ (by assumption) (by assumption)).mono ?_; rintro e w2 ⟨rfl, hb2⟩))
    go_ret
    exact ⟨ret_bool (by rw [hsm.out]), bCall (bCall b1 hb1) hb2⟩
  · have hsm : Kp (Pl.same p s t = false) := ⟨by rw [hsm.out]; simp⟩
    go_enter Tryz.func23, Tryz.ntmps23
    go_wp2_with (go_at_call 53; first
      | (refine (hC _ (by assumption) (by assumption)).mono ?_; rintro e w1 ⟨rfl, hb1⟩; have hA2 := (hA1.below hb1).more hb1.size; have B2 := B1.call hb1; clear hC)
      | (refine (hD _ (by assumption) (by assumption)).mono ?_; rintro e w2 ⟨rfl, hb2⟩))
    go_ret
    exact ⟨ret_bool (by rw [hsm.out]), bCall (bCall b1 hb1) hb2⟩
  · have hsm : Kp (Pl.same p s t = true) := ⟨by rw [hsm.out]; simp⟩
    go_enter Tryz.func23, Tryz.ntmps23
    go_wp2_with (go_at_call 53; first
      | (refine (hC _ (by assumption) (by assumption)).mono ?_; rintro e w1 ⟨rfl, hb1⟩; have hA2 := (hA1.below hb1).more hb1.size; have B2 := B1.call hb1; clear hC)
      | (refine (hD _ (by assumption) (by assumption)).mono ?_; rintro e w2 ⟨rfl, hb2⟩))
    go_ret
    exact ⟨ret_bool (by rw [hsm.out]), bCall (bCall b1 hb1) hb2⟩
  · have hsm : Kp (Pl.same p s t = false) := ⟨by rw [hsm.out]; simp [hm]⟩
    have t1 : (m == n) = false := by simp [hm]
    go_enter Tryz.func23, Tryz.ntmps23
    go_wp2_with (go_at_call 53; first
      | (refine (hC _ (by assumption) (by assumption)).mono ?_; rintro e w1 ⟨rfl, hb1⟩; have hA2 := (hA1.below hb1).more hb1.size; have B2 := B1.call hb1; clear hC)
      | (refine (hD _ (by assumption) (by assumption)).mono ?_; rintro e w2 ⟨rfl, hb2⟩))
    go_ret
    exact ⟨ret_bool (by rw [hsm.out]), bCall (bCall b1 hb1) hb2⟩
end Go.Proofs.YtppdcjbnijbcdaaGreatDoor
