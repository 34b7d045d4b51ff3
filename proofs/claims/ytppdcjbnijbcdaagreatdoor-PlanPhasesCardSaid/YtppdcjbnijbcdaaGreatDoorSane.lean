/- reads, kind, example and sane of package dialtonelaw12: the chapter's examples hold. -/
import Derived.Test.YtppdcjbnijbcdaaGreatDoorSame
import Derived.Test.YtppdcjbnijbcdaaGreatDoorPlainC
namespace Pl
/-- the chapter's example -/
def ex : List Cd := [⟨[50], [56, 50], 5⟩, ⟨[51, 49], [57], 5⟩]
end Pl
namespace Go.Proofs.YtppdcjbnijbcdaaGreatDoor
set_option linter.unusedVariables false
set_option linter.unusedSimpArgs false
open Go.RowKit
set_option maxRecDepth 100000 in
theorem example_any (w : World) : Calls Tryz.prog 30 #[] w fun e w' => ∃ A, e = .returned (.slice A 2 2) ∧ Below w.heap.size w w' ∧ At 3 codeC w' w'.heap.size A Pl.ex := by
  go_enter Tryz.func30, Tryz.ntmps30
  go_wp2
  go_ret
  refine ⟨_, rfl, bNew (bStart w) _, fun _ => ⟨w.heap.size, 0, rfl, by rw [alloc_size]; omega, ?_⟩⟩
  have B := Bx.mk w 29 #[.string ⟨#[50]⟩, .string ⟨#[56, 50]⟩, .int .i64 5, .string ⟨#[51, 49]⟩, .string ⟨#[57]⟩, .int .i64 5]
  intro i c hi j u hj
  rcases i with _ | _ | i
  · simp only [Pl.ex, List.getElem?_cons_zero, Option.some.injEq] at hi
    subst hi
    rcases j with _ | _ | _ | j
    · simp only [codeC, List.getElem?_cons_zero, Option.some.injEq] at hj; subst hj; exact B.cell 0 rfl
    · simp only [codeC, List.getElem?_cons_succ, List.getElem?_cons_zero, Option.some.injEq] at hj; subst hj; exact B.cell 1 rfl
    · simp only [codeC, List.getElem?_cons_succ, List.getElem?_cons_zero, Option.some.injEq] at hj; subst hj; exact B.cell 2 rfl
    · simp [codeC] at hj
  · simp only [Pl.ex, List.getElem?_cons_succ, List.getElem?_cons_zero, Option.some.injEq] at hi
    subst hi
    rcases j with _ | _ | _ | j
    · simp only [codeC, List.getElem?_cons_zero, Option.some.injEq] at hj; subst hj; exact B.cell 3 rfl
    · simp only [codeC, List.getElem?_cons_succ, List.getElem?_cons_zero, Option.some.injEq] at hj; subst hj; exact B.cell 4 rfl
    · simp only [codeC, List.getElem?_cons_succ, List.getElem?_cons_zero, Option.some.injEq] at hj; subst hj; exact B.cell 5 rfl
    · simp [codeC] at hj
  · simp [Pl.ex] at hi
theorem ex_small : ∀ c ∈ Pl.ex, c.old.length ≤ 1000 ∧ c.new.length ≤ 1000 := by
  intro c hc
  simp only [Pl.ex, List.mem_cons, List.not_mem_nil, or_false] at hc
  rcases hc with rfl | rfl <;> simp
set_option maxRecDepth 100000 in
set_option maxHeartbeats 2000000 in
theorem kind_any (s : List UInt8) (ph : Int) (w : World) (hsl : s.length ≤ 1000) (x : Pl.Dialled) (e : Int) (hr : Pl.read Pl.ex s ph = (x, e)) (k : Int) (hk : k = if e = 0 then x.kind else -1) :
    Calls Tryz.prog 32 #[.string ⟨s.toArray⟩, .int .i64 ph] w fun e w' => e = .returned (.int .i64 k) ∧ Below w.heap.size w w' := by
  have hR := fun A w0 (h0 : At 3 codeC w0 w0.heap.size A Pl.ex) => read_any Pl.ex A 2 s ph w0 h0 (by decide) (by decide) ex_small hsl
  rw [hr] at hR
  simp only [readV] at hR
  have hx := example_any w
  obtain ⟨xk, xn, xc, xu⟩ := x
  by_cases he : e = 0
  · subst he
    simp only [if_true] at hk
    subst hk
    clear hr
    go_enter Tryz.func32, Tryz.ntmps32
    go_wp2_with (first
      | (go_at_call 30; refine hx.mono ?_; rintro _ w1 ⟨A, rfl, hb1, hA1⟩)
      | (go_at_call 21; refine (hR _ _ hA1).mono ?_; rintro _ w2 ⟨rfl, hb2⟩))
    go_ret
    exact ⟨rfl, bNew (bCall hb1 hb2) _⟩
  · have hk : k = -1 := by rw [hk, if_neg he]
    subst hk
    have t1 : (e != 0) = true := by simp [he]
    clear hr
    go_enter Tryz.func32, Tryz.ntmps32
    go_wp2_with (first
      | (go_at_call 30; refine hx.mono ?_; rintro _ w1 ⟨A, rfl, hb1, hA1⟩)
      | (go_at_call 21; refine (hR _ _ hA1).mono ?_; rintro _ w2 ⟨rfl, hb2⟩))
    go_ret
    exact ⟨rfl, bNew (bCall hb1 hb2) _⟩
set_option maxRecDepth 100000 in
set_option maxHeartbeats 2000000 in
theorem reads_any (s : List UInt8) (n c u : Int) (w : World) (hsl : s.length ≤ 1000) (hr : Pl.read Pl.ex s 2 = (⟨2, n, c, u⟩, 0)) :
    Calls Tryz.prog 31 #[.string ⟨s.toArray⟩, .int .i64 n, .int .i64 c, .int .i64 u] w fun e w' => e = .returned (.bool true) ∧ Below w.heap.size w w' := by
  have hR := fun A w0 (h0 : At 3 codeC w0 w0.heap.size A Pl.ex) => read_any Pl.ex A 2 s 2 w0 h0 (by decide) (by decide) ex_small hsl
  rw [hr] at hR
  simp only [readV] at hR
  have hx := example_any w
  clear hr
  go_enter Tryz.func31, Tryz.ntmps31
  go_wp2_with (first
    | (go_at_call 30; refine hx.mono ?_; rintro _ w1 ⟨A, rfl, hb1, hA1⟩)
    | (go_at_call 21; refine (hR _ _ hA1).mono ?_; rintro _ w2 ⟨rfl, hb2⟩))
  go_ret
  exact ⟨rfl, bNew (bCall hb1 hb2) _⟩
end Go.Proofs.YtppdcjbnijbcdaaGreatDoor
