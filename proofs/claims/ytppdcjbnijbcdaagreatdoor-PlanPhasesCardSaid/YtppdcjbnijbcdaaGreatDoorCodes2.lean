/- dialtoneref12.one; pairs of codes. -/
import Derived.Test.YtppdcjbnijbcdaaGreatDoorCodes
namespace Go.Proofs.YtppdcjbnijbcdaaGreatDoor
set_option linter.unusedVariables false
set_option linter.unusedSimpArgs false
open Go.RowKit
set_option maxRecDepth 100000 in
set_option maxHeartbeats 2000000 in
theorem one_any (o n : List UInt8) (l : Int) (ho : o.length ≤ 1000) (hn : n.length ≤ 1000) (hl1 : -9223372036854775808 ≤ l) (hl2 : l ≤ 9223372036854775807) (w : World) :
    Calls Tryz.prog 58 #[.agg #[.string ⟨o.toArray⟩, .string ⟨n.toArray⟩, .int .i64 l]] w fun e w' => e = .returned (.bool (Pl.isCode ⟨o, n, l⟩)) ∧ Below w.heap.size w w' := by
  have ho' : o.length ≤ 1000000 := by omega
  have hn' : n.length ≤ 1000000 := by omega
  have hdd : Pl.digits (o ++ n) = (Pl.digits o && Pl.digits n) := by simp [Pl.digits]
  by_cases hall : Pl.digits o = true ∧ Pl.digits n = true ∧ (1 : Int) ≤ o.length ∧ (o.length : Int) ≤ 4 ∧ (1 : Int) ≤ n.length ∧ (n.length : Int) ≤ 5 ∧ (o.length : Int) < l ∧ l ≤ 7 ∧ l - (o.length : Int) ≤ 8 - (n.length : Int)
  · obtain ⟨h1, h2, h3, h4, h5, h6, h7, h8, h9⟩ := hall
    have hfin : Pl.isCode ⟨o, n, l⟩ = Pl.apart o n := by
      rw [isCode_eq, hdd, h1, h2]
      simp [Pl.within, h3, h4, h5, h6, h8, h9]
      intro _; omega
    have HF := Lib.hid hfin
    clear hfin hdd
    go_enter Tryz.func58, Tryz.ntmps58
    go_wp2_with (first
      | (go_at_call 51; refine (digits_any _ (by assumption) _).mono ?_; rintro e w' ⟨rfl, rfl⟩)
      | (go_at_call 59; refine (apart_any _ _ _).mono ?_; rintro e w' ⟨rfl, rfl⟩))
    go_ret
    exact ⟨ret_bool HF.out.symm, bNew (bStart _) _⟩
  · have hfin : Pl.isCode ⟨o, n, l⟩ = false := by
      rw [isCode_eq, hdd]
      cases h1 : Pl.digits o <;> cases h2 : Pl.digits n <;> simp_all [Pl.within]
      intro _ _ _ _ _ _ _
      omega
    have HF := Lib.hid hfin
    have hc : Pl.digits o = false ∨ (Pl.digits o = true ∧ Pl.digits n = false) ∨ (Pl.digits o = true ∧ Pl.digits n = true ∧ ((o.length : Int) < 1 ∨ (1 ≤ (o.length : Int) ∧ 4 < (o.length : Int)) ∨ ((1 : Int) ≤ o.length ∧ (o.length : Int) ≤ 4 ∧ ((n.length : Int) < 1 ∨ ((1 : Int) ≤ n.length ∧ 5 < (n.length : Int)) ∨ ((1 : Int) ≤ n.length ∧ (n.length : Int) ≤ 5 ∧ (l ≤ (o.length : Int) ∨ ((o.length : Int) < l ∧ 7 < l) ∨ ((o.length : Int) < l ∧ l ≤ 7 ∧ 8 - (n.length : Int) < l - (o.length : Int)))))))) := by
      cases h1 : Pl.digits o <;> cases h2 : Pl.digits n <;> simp_all
      omega
    clear hall hfin hdd
    rcases hc with h1 | ⟨h1, h2⟩ | ⟨h1, h2, h3 | ⟨h3, h3'⟩ | ⟨h3, h4, h5 | ⟨h5, h5'⟩ | ⟨h5, h6, h7 | ⟨h7, h7'⟩ | ⟨h7, h8, h9⟩⟩⟩⟩
    all_goals
      go_enter Tryz.func58, Tryz.ntmps58
      go_wp2_with (first
        | (go_at_call 51; refine (digits_any _ (by assumption) _).mono ?_; rintro e w' ⟨rfl, rfl⟩))
      go_ret
      exact ⟨ret_bool HF.out.symm, bNew (bStart _) _⟩
/-- plan.Valid's closure: may two codes stand beside each other? -/
theorem differ_eq (a b : Pl.Cd) : Pl.differ a b = (Pl.apart a.old b.old && Pl.apart a.new b.new && Pl.apart a.old b.new && Pl.apart a.new b.old) := rfl
set_option maxRecDepth 100000 in
set_option maxHeartbeats 2000000 in
theorem differ_any (a b : Pl.Cd) (w : World) :
    Calls Tryz.prog 55 #[codeV a, codeV b] w fun e w' => e = .returned (.bool (Pl.differ a b)) ∧ Below w.heap.size w w' := by
  have hc : Pl.apart a.old b.old = false ∨ (Pl.apart a.old b.old = true ∧ Pl.apart a.new b.new = false) ∨ (Pl.apart a.old b.old = true ∧ Pl.apart a.new b.new = true ∧ Pl.apart a.old b.new = false) ∨ (Pl.apart a.old b.old = true ∧ Pl.apart a.new b.new = true ∧ Pl.apart a.old b.new = true) := by
    cases Pl.apart a.old b.old <;> cases Pl.apart a.new b.new <;> cases Pl.apart a.old b.new <;> simp
  have HF := Lib.hid (differ_eq a b)
  unfold codeV
  rcases hc with h1 | ⟨h1, h2⟩ | ⟨h1, h2, h3⟩ | ⟨h1, h2, h3⟩
  all_goals
    go_enter Tryz.func55, Tryz.ntmps55
    go_wp2_with (go_at_call 56; refine (areApart_any _ _ _).mono ?_; rintro e w' ⟨rfl, rfl⟩)
    go_ret
    exact ⟨ret_bool (by rw [HF.out]; simp [h1]; try simp [h2]; try simp [h3]), bNew (bNew (bStart _) _) _⟩
end Go.Proofs.YtppdcjbnijbcdaaGreatDoor
