/- What Exact, Splits and Midnights return at every input: package and reference alike. -/
import Derived.Test.YtfebcokmnhdbmaaGreatDoorTRSplit
import Derived.Test.YtfebcokmnhdbmaaGreatDoorTRMid
import Derived.Test.YtfebcokmnhdbmaaGreatDoorTRExact
import Derived.Test.YtfebcokmnhdbmaaGreatDoorTRAmt
namespace Go.Proofs.YtfebcokmnhdbmaaGreatDoor
set_option linter.unusedVariables false
set_option linter.unusedSimpArgs false
open Go.RowKit Go.Shelf
theorem exTot (base : Int) (L : List Tp.Rate) (off a b : Int) : ∃ (n d : ByteArray) (k : Int),
    (∀ A cap w, Tar w base L A cap → Env w → Calls Tryz.prog 28 #[.agg #[.slice A L.length cap, .int .i64 base], .int .i64 off, .agg #[.int .i64 a, .int .i64 b]] w fun e w' => e = .returned (.tuple #[.agg #[.string n, .string d], .int .i64 k]) ∧ Below w.heap.size w w') ∧
    (∀ A cap w, Tar w base L A cap → Calls Tryz.prog 29 #[.agg #[.slice A L.length cap, .int .i64 base], .int .i64 off, .agg #[.int .i64 a, .int .i64 b]] w fun e w' => e = .returned (.tuple #[.agg #[.string n, .string d], .int .i64 k]) ∧ Below w.heap.size w w') := by
  cases hg : good base L off a b with
  | false => exact ⟨_, _, 370, fun A cap w hT _ => Exact_not base L A cap off a b w hT hg, fun A cap w hT => rExact_not base L A cap off a b w hT hg⟩
  | true => exact ⟨_, _, 0, fun A cap w hT hE => Exact_good base L A cap off a b w hT hE hg, fun A cap w hT => rExact_good base L A cap off a b w hT hg⟩
def SlP (N : List Tp.Pc) (k : Int) (w : World) : Ending → World → Prop := fun e w' => (∃ C cc, e = .returned (.tuple #[.slice C N.length cc, .int .i64 k]) ∧ At 3 pcC w' w'.heap.size C N ∧ N.length ≤ cc ∧ cc ≤ maxLen) ∧ Below w.heap.size w w'
theorem splTot (base : Int) (L : List Tp.Rate) (off a b : Int) : ∃ (N : List Tp.Pc) (k : Int),
    (∀ A cap w, Tar w base L A cap → Calls Tryz.prog 30 #[.agg #[.slice A L.length cap, .int .i64 base], .int .i64 off, .agg #[.int .i64 a, .int .i64 b]] w (SlP N k w)) ∧
    (∀ A cap w, Tar w base L A cap → Calls Tryz.prog 31 #[.agg #[.slice A L.length cap, .int .i64 base], .int .i64 off, .agg #[.int .i64 a, .int .i64 b]] w (SlP N k w)) := by
  cases hg : good base L off a b with
  | false =>
    refine ⟨[], 370, fun A cap w hT => (Splits_not base L A cap off a b w hT hg).mono ?_, fun A cap w hT => (rSplits_not base L A cap off a b w hT hg).mono ?_⟩
    all_goals
      rintro e w' ⟨rfl, hb⟩
      exact ⟨⟨none, 0, rfl, fun h => absurd h (by decide), Nat.le_refl _, Nat.zero_le _⟩, hb⟩
  | true => exact ⟨spl base L off a b, 0, fun A cap w hT => Splits_good base L A cap off a b w hT hg, fun A cap w hT => rSplits_good base L A cap off a b w hT hg⟩
def MiP (M : List Int) (k : Int) (w : World) : Ending → World → Prop := fun e w' => (∃ C cc, e = .returned (.tuple #[.slice C M.length cc, .int .i64 k]) ∧ At 1 intC w' w'.heap.size C M ∧ M.length ≤ cc ∧ cc ≤ maxLen) ∧ Below w.heap.size w w'
theorem midTot (off a b : Int) : ∃ (M : List Int) (k : Int),
    (∀ w, Calls Tryz.prog 32 #[.int .i64 off, .agg #[.int .i64 a, .int .i64 b]] w (MiP M k w)) ∧
    (∀ w, Calls Tryz.prog 33 #[.int .i64 off, .agg #[.int .i64 a, .int .i64 b]] w (MiP M k w)) := by
  cases hg : isZone off && isSpell a b with
  | false =>
    refine ⟨[], 370, fun w => (Midnights_any off a b w).mono ?_, fun w => (rMidnights_any off a b w).mono ?_⟩
    all_goals
      rintro e w' ⟨⟨v, rfl, hv⟩, hb⟩
      rw [hg] at hv ⊢
      have hv : v = .slice none 0 0 := hv
      subst hv
      exact ⟨⟨none, 0, rfl, fun h => absurd h (by decide), Nat.le_refl _, Nat.zero_le _⟩, hb⟩
  | true =>
    refine ⟨midsOf off a b, 0, fun w => (Midnights_any off a b w).mono ?_, fun w => (rMidnights_any off a b w).mono ?_⟩
    all_goals
      rintro e w' ⟨⟨v, rfl, hv⟩, hb⟩
      rw [hg] at hv ⊢
      have hv : RowZ _ _ _ _ _ _ _ := hv
      obtain ⟨A9, c9, rfl, hAt, hle, hcm⟩ := RowZ.at (f := intC) (fun _ => rfl) hv
      exact ⟨⟨A9, c9, rfl, hAt, hle, hcm⟩, hb⟩
end Go.Proofs.YtfebcokmnhdbmaaGreatDoor
