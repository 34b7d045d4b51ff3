/- Powers of ten as fractions. -/
import Derived.Test.YtpmpnoandfjcbaaGreatDoorRGridP
namespace Go.Proofs.YtpmpnoandfjcbaaGreatDoor
set_option linter.unusedVariables false
set_option linter.unusedSimpArgs false
open Go.RowKit Go.Shelf
theorem lq_lit {q : Rat} {n d : List UInt8} (h1 : Lib.itoa q.num = n) (h2 : Lib.itoa (q.den : Int) = d) : LQ q n d := ⟨⟨h1, h2⟩⟩
theorem lq_pow (k : Nat) : LQ (Rat.divInt 1 ((10 ^ k : Nat) : Int)) [49] (Lib.itoa ((10 ^ k : Nat) : Int)) ∧ LQ (Rat.divInt ((10 ^ k : Nat) : Int) 1) (Lib.itoa ((10 ^ k : Nat) : Int)) [49] := by
  obtain ⟨h1, h2⟩ := Rq.make_pos (n := 1) (d := ((10 ^ k : Nat) : Int)) (Rq.pow_pos' k)
  obtain ⟨h3, h4⟩ := Rq.make_pos (n := ((10 ^ k : Nat) : Int)) (d := 1) (by decide)
  have e : Nat.gcd (1 : Int).natAbs ((10 ^ k : Nat) : Int).natAbs = 1 := Nat.gcd_one_left _
  have e' : Nat.gcd ((10 ^ k : Nat) : Int).natAbs (1 : Int).natAbs = 1 := Nat.gcd_one_right _
  rw [e] at h1 h2
  rw [e'] at h3 h4
  rw [show (((1 : Nat) : Int)) = 1 from rfl, Int.ediv_one] at h1 h2 h3 h4
  exact ⟨lq_lit (by rw [h1]; exact itoa_one') (by rw [h2]), lq_lit (by rw [h3]) (by rw [h4]; exact itoa_one')⟩
end Go.Proofs.YtpmpnoandfjcbaaGreatDoor
